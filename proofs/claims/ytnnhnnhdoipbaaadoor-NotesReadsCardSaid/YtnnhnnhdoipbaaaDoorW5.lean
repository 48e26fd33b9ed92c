/- Part of a proof about given Go functions: contracts of functions, or plain laws. -/
import Derived.Test.YtnnhnnhdoipbaaaDoorNoteV
import Derived.Test.YtnnhnnhdoipbaaaDoorSxI
import Derived.Test.YtnnhnnhdoipbaaaDoorProg
import Derived.Test.YtnnhnnhdoipbaaaDoorW1
import Derived.Test.YtnnhnnhdoipbaaaDoorW2
import Derived.Test.YtnnhnnhdoipbaaaDoorW4
import Derived.Test.YtnnhnnhdoipbaaaDoorNoteW
import Derived.Test.YtnnhnnhdoipbaaaDoorW3
set_option linter.unusedVariables false
set_option linter.unusedSimpArgs false
namespace Go.Proofs.YtnnhnnhdoipbaaaDoor.N_RRBatch
open Go.Sx Go.RowKit Go.Proofs.YtnnhnnhdoipbaaaDoor.N_Block Go.Proofs.YtnnhnnhdoipbaaaDoor.N_Sum Go.Proofs.YtnnhnnhdoipbaaaDoor.N_Ref Go.Proofs.YtnnhnnhdoipbaaaDoor.N_RSum Go.Proofs.YtnnhnnhdoipbaaaDoor.N_Leaf Go.Proofs.YtnnhnnhdoipbaaaDoor.N_Num Go.Proofs.YtnnhnnhdoipbaaaDoor.N_Key Go.Proofs.YtnnhnnhdoipbaaaDoor.N_Ref Go.Proofs.YtnnhnnhdoipbaaaDoor.N_RSum Go.Proofs.YtnnhnnhdoipbaaaDoor.N_Tag Go.Proofs.YtnnhnnhdoipbaaaDoor.N_Read Go.Proofs.YtnnhnnhdoipbaaaDoor.N_Lay Go.Proofs.YtnnhnnhdoipbaaaDoor.N_Eq Go.Proofs.YtnnhnnhdoipbaaaDoor.N_Ref0 Go.Proofs.YtnnhnnhdoipbaaaDoor.N_RWBatch

theorem z_zeroN42 : zeroL Tryd.prog 42 = some ((.int .i64 0 :: (.int .i64 0 :: (.int .i64 0 :: (.slice none 0 0 :: []))))) := by kernel_rfl
theorem z_call52 : callB Tryd.prog 52 = true := by kernel_rfl
theorem z_call53 : callB Tryd.prog 53 = true := by kernel_rfl
theorem z_places42 : placesB Tryd.prog 42 = some [(0, 1), (1, 1), (2, 1), (3, 1)] := by kernel_rfl
theorem z_size42 : sizeB Tryd.prog 42 = some 4 := by kernel_rfl
theorem q_one_c4 {a0 a1 a2 a3 : Value} (o0 : a0.oneCell' = true) (o1 : a1.oneCell' = true) (o2 : a2.oneCell' = true) (o3 : a3.oneCell' = true) : (a0 :: a1 :: a2 :: a3 :: []).all (·.oneCell') = true := (one_c o0 (one_c o1 (one_c o2 (one_c o3 one_n))))
theorem q_len_c4 {a0 a1 a2 a3 : Value} : (a0 :: a1 :: a2 :: a3 :: []).length = 4 := (len_c (n := 3) (len_c (n := 2) (len_c (n := 1) (len_c (n := 0) len_n))))
theorem q_spl_c4_0_c4 {a0 a1 a2 a3 : Value} {b0 b1 b2 b3 : Value} : spl (a0 :: a1 :: a2 :: a3 :: []) 0 (b0 :: b1 :: b2 :: b3 :: []) = b0 :: b1 :: b2 :: b3 :: [] := (spl_a (z := 4) (len_c (n := 3) (len_c (n := 2) (len_c (n := 1) (len_c (n := 0) len_n)))) (len_c (n := 3) (len_c (n := 2) (len_c (n := 1) (len_c (n := 0) len_n)))))
theorem z_agg42 : aggB Tryd.prog 42 = some true := by kernel_rfl
theorem z_size3 : sizeB Tryd.prog 3 = some 1 := by kernel_rfl
theorem z_agg3 : aggB Tryd.prog 3 = some false := by kernel_rfl
theorem q_spl_c4_0_c1 {a0 a1 a2 a3 : Value} {b0 : Value} : spl (a0 :: a1 :: a2 :: a3 :: []) 0 (b0 :: []) = b0 :: a1 :: a2 :: a3 :: [] := spl_0
theorem q_spl_c4_1_c1 {a0 a1 a2 a3 : Value} {b0 : Value} : spl (a0 :: a1 :: a2 :: a3 :: []) 1 (b0 :: []) = a0 :: b0 :: a2 :: a3 :: [] := (spl_c (o := 0) spl_0)
theorem q_spl_c4_2_c1 {a0 a1 a2 a3 : Value} {b0 : Value} : spl (a0 :: a1 :: a2 :: a3 :: []) 2 (b0 :: []) = a0 :: a1 :: b0 :: a3 :: [] := (spl_c (o := 1) (spl_c (o := 0) spl_0))
theorem z_size9 : sizeB Tryd.prog 9 = some 1 := by kernel_rfl
theorem z_agg9 : aggB Tryd.prog 9 = some false := by kernel_rfl
theorem z_zeroN75 : zeroL Tryd.prog 75 = some ((.bool false :: (.string ⟨#[]⟩ :: []))) := by kernel_rfl
theorem z_places75 : placesB Tryd.prog 75 = some [(0, 1), (1, 1)] := by kernel_rfl
theorem q_len_c2 {a0 a1 : Value} : (a0 :: a1 :: []).length = 2 := (len_c (n := 1) (len_c (n := 0) len_n))
theorem q_spl_c2_0_c1 {a0 a1 : Value} {b0 : Value} : spl (a0 :: a1 :: []) 0 (b0 :: []) = b0 :: a1 :: [] := spl_0
theorem z_size75 : sizeB Tryd.prog 75 = some 2 := by kernel_rfl
theorem q_one_c2 {a0 a1 : Value} (o0 : a0.oneCell' = true) (o1 : a1.oneCell' = true) : (a0 :: a1 :: []).all (·.oneCell') = true := (one_c o0 (one_c o1 one_n))
theorem q_spl_c2_0_c2 {a0 a1 : Value} {b0 b1 : Value} : spl (a0 :: a1 :: []) 0 (b0 :: b1 :: []) = b0 :: b1 :: [] := (spl_a (z := 2) (len_c (n := 1) (len_c (n := 0) len_n)) (len_c (n := 1) (len_c (n := 0) len_n)))
theorem z_field75_0 : fieldB Tryd.prog 75 0 = some 0 := by kernel_rfl
theorem z_agg4 : aggB Tryd.prog 4 = some false := by kernel_rfl
theorem q_ix_c2_0 {a0 a1 : Value} : (a0 :: a1 :: [])[0]? = some a0 := ix_0
theorem z_field75_1 : fieldB Tryd.prog 75 1 = some 1 := by kernel_rfl
theorem q_set_c2_1 {a0 a1 : Value} {v : Value} : (a0 :: a1 :: []).set 1 v = a0 :: v :: [] := (set_c (o := 0) set_0)
theorem z_agg75 : aggB Tryd.prog 75 = some true := by kernel_rfl
theorem q_ld_c2_0_2 {a0 a1 : Value} : ((a0 :: a1 :: []).drop 0).take 2 = a0 :: a1 :: [] := (ld_a (len_c (n := 1) (len_c (n := 0) len_n)))
theorem z_call48 : callB Tryd.prog 48 = true := by kernel_rfl
theorem z_field42_3 : fieldB Tryd.prog 42 3 = some 3 := by kernel_rfl
theorem z_agg40 : aggB Tryd.prog 40 = some false := by kernel_rfl
theorem q_ix_c4_3 {a0 a1 a2 a3 : Value} : (a0 :: a1 :: a2 :: a3 :: [])[3]? = some a3 := (ix_c (o := 2) (ix_c (o := 1) (ix_c (o := 0) ix_0)))
theorem z_zero75 : zeroL Tryd.prog 75 = some ([.bool false, .string ⟨#[]⟩]) := by kernel_rfl
theorem z_slice40 : sliceB Tryd.prog 40 = some (75, 2, 24) := by kernel_rfl
theorem z_notint40 : notIntB Tryd.prog 40 = true := by kernel_rfl
theorem z_size40 : sizeB Tryd.prog 40 = some 1 := by kernel_rfl
theorem q_set_c4_3 {a0 a1 a2 a3 : Value} {v : Value} : (a0 :: a1 :: a2 :: a3 :: []).set 3 v = a0 :: a1 :: a2 :: v :: [] := (set_c (o := 2) (set_c (o := 1) (set_c (o := 0) set_0)))
theorem z_field42_0 : fieldB Tryd.prog 42 0 = some 0 := by kernel_rfl
theorem q_ix_c4_0 {a0 a1 a2 a3 : Value} : (a0 :: a1 :: a2 :: a3 :: [])[0]? = some a0 := ix_0
theorem z_call45 : callB Tryd.prog 45 = true := by kernel_rfl
theorem z_field42_1 : fieldB Tryd.prog 42 1 = some 1 := by kernel_rfl
theorem q_ix_c4_1 {a0 a1 a2 a3 : Value} : (a0 :: a1 :: a2 :: a3 :: [])[1]? = some a1 := (ix_c (o := 0) ix_0)
theorem z_field42_2 : fieldB Tryd.prog 42 2 = some 2 := by kernel_rfl
theorem q_ix_c4_2 {a0 a1 a2 a3 : Value} : (a0 :: a1 :: a2 :: a3 :: [])[2]? = some a2 := (ix_c (o := 1) (ix_c (o := 0) ix_0))
theorem q_ld_c4_0_4 {a0 a1 a2 a3 : Value} : ((a0 :: a1 :: a2 :: a3 :: []).drop 0).take 4 = a0 :: a1 :: a2 :: a3 :: [] := (ld_a (len_c (n := 3) (len_c (n := 2) (len_c (n := 1) (len_c (n := 0) len_n)))))

set_option maxRecDepth 100000 in
set_option maxHeartbeats 2000000 in
theorem rreadbatch (s : List UInt8) (hs : s.length ≤ 140737488351232) {w : World}  : Calls Tryd.prog 30 #[str s] w (Post [] w (fun u l => ∃ (A : Option Addr) (c : Nat), u = .tuple #[.agg (Note.Batch.cells (Note.readBatch s).1 A c).toArray, .int .i64 (Note.readBatch s).2] ∧ l = [It.row 75 2 (.slice A (Note.readBatch s).1.parts.length c) (Note.readBatch s).1.parts.length (Note.pc (Note.readBatch s).1.parts)])) := by
  have hwl := Note.whole_len (s := s)
  have hLb := Note.whole_le (s := s)
  have hlt3 : ((Note.whole s).1.drop 3).length = (Note.whole s).1.length - 3 := List.length_drop
  have lz32 : (List.replicate 32 (0 : UInt8)).length = 32 := List.length_replicate
  refine enterL (args := [str s]) Tryd.func30 rfl rfl (l := []) (Sep.refl _) ?_
  intro a0 H0
  refine wp_seq ?_
  refine reg ?_
  refine st_alloc rfl z_zeroN42 rfl rfl rfl H0 ?_
  clear H0; intro b1 a1 wx1 H1
  refine plain (y_assign rfl rfl) rfl rfl rfl H1 ?_
  clear H1; intro a2 H2
  refine fin ?_
  refine then_n ?_
  refine wp_seq ?_
  refine reg ?_
  refine plain (y_move rfl rfl) rfl rfl rfl H2 ?_
  clear H2; intro a3 H3
  refine st_call rfl z_call52 rfl rfl rfl rfl H3 (rwhole s (by omega) _) ?_
  clear H3; intro v4 l4 a4 wx4 hf4 H4
  obtain ⟨vt4, rfl, rfl⟩ := hf4
  simp only [List.cons_append, List.nil_append] at H4
  obtain ⟨ArL, crL, hvrL, hRrL, hmrL⟩ := row_shape (v := vt4) H4.sep (by repeat (first | exact Mh | apply Mt))
  subst hvrL
  refine plain (y_move rfl rfl) rfl rfl rfl H4 ?_
  clear H4; intro a5 H5
  refine plain (y_extract rfl rfl rfl) rfl rfl rfl H5 ?_
  clear H5; intro a6 H6
  refine plain (y_extract rfl rfl rfl) rfl rfl rfl H6 ?_
  clear H6; intro a7 H7
  refine plain (y_assign rfl rfl) rfl rfl rfl H7 ?_
  clear H7; intro a8 H8
  refine plain (y_assign rfl rfl) rfl rfl rfl H8 ?_
  clear H8; intro a9 H9
  refine fin ?_
  refine then_n ?_
  refine wp_seq ?_
  refine reg ?_
  refine plain (y_move rfl rfl) rfl rfl rfl H9 ?_
  clear H9; intro a10 H10
  refine st_call rfl z_call53 rfl rfl rfl rfl H10 (rnumbers (Note.whole s).1 Note.whole_le 3 (by decide) _ _ _ rfl (by have := Note.whole_len (s := s); omega) (Rd.ofSep (rd_row (by repeat (first | exact Mh | apply Mt))) H10.sep)) ?_
  clear H10; intro v11 l11 a11 wx11 hf11 H11
  rcases hf11 with ⟨vn, ns, hfi, rfl, rfl, hnl, hnr⟩ | ⟨hfi, rfl, rfl⟩
  · skip
    obtain ⟨n0, n1, n2, rfl⟩ := Note.three hnl
    simp only [List.cons_append, List.nil_append] at H11
    obtain ⟨An, cn, hvn, hRn, hmn⟩ := row_shape (v := vn) H11.sep (List.Mem.head _)
    subst hvn
    refine plain (y_move rfl rfl) rfl rfl rfl H11 ?_
    clear H11; intro a12 H12
    refine plain (y_extract rfl rfl rfl) rfl rfl rfl H12 ?_
    clear H12; intro a13 H13
    refine plain (y_extract rfl rfl rfl) rfl rfl rfl H13 ?_
    clear H13; intro a14 H14
    refine plain (y_assign rfl rfl) rfl rfl rfl H14 ?_
    clear H14; intro a15 H15
    refine plain (y_assign rfl rfl) rfl rfl rfl H15 ?_
    clear H15; intro a16 H16
    refine fin ?_
    refine then_n ?_
    refine wp_seq ?_
    refine wp_seq ?_
    refine reg ?_
    refine plain (y_move rfl rfl) rfl rfl rfl H16 ?_
    clear H16; intro a17 H17
    refine plain (y_neq rfl rfl rfl) rfl rfl rfl H17 ?_
    clear H17; intro a18 H18
    refine plain (y_move rfl rfl) rfl rfl rfl H18 ?_
    clear H18; intro a19 H19
    refine Sx.part (d := 25) H19 rfl (fun hg20 => ?_) (fun hg20 => ?_)
    · first
      | fail
      | skip
        clear H19; intro H21
        try simp only [decide_eq_true_eq, decide_eq_false_iff_not, Bool.not_eq_true', Bool.not_eq_false', Bool.and_eq_true, Bool.not_eq_true, Bool.not_eq_false] at hg20
        refine skip rfl rfl rfl H21 ?_
        clear H21; intro a22 H22
        refine skip rfl rfl rfl H22 ?_
        clear H22; intro a23 H23
        refine plain (y_pick_t rfl rfl rfl) rfl rfl rfl H23 ?_
        clear H23; intro a24 H24
        refine plain (y_move rfl rfl) rfl rfl rfl H24 ?_
        clear H24; intro a25 H25
        refine skip rfl rfl rfl H25 ?_
        clear H25; intro a26 H26
        refine skip rfl rfl rfl H26 ?_
        clear H26; intro a27 H27
        refine skip rfl rfl rfl H27 ?_
        clear H27; intro a28 H28
        refine plain (y_pick_t rfl rfl rfl) rfl rfl rfl H28 ?_
        clear H28; intro a29 H29
        refine fin ?_
        refine then_n ?_
        refine cnd_t H29 rfl ?_
        refine wp_seq ?_
        refine reg ?_
        refine plain (y_build rfl z_zeroN42 z_places42 rfl lay_n) rfl rfl rfl H29 ?_
        clear H29; intro a31 H31
        refine st_storeN rfl z_size42 rfl rfl (agg_cells _) (by repeat (first | exact Uh | apply Ut)) (q_one_c4 rfl rfl rfl rfl) q_len_c4 q_len_c4 q_spl_c4_0_c4 (by decide) rfl rfl H31 ?_
        clear H31; intro wx32 H32
        refine plain (y_assign rfl rfl) rfl rfl rfl H32 ?_
        clear H32; intro a33 H33
        refine fin ?_
        refine then_n ?_
        refine wp_ret ?_
        refine then_r ?_
        -- return 1
        refine retct rfl H33 rfl z_agg42 z_size42 (by repeat (first | exact Mh | apply Mt)) q_len_c4 rfl ?_
        first | (rw [Note.readBatch_none (by first | exact Note.fields_none2 hfi | exact Note.fields_none1 (by assumption))]; exact ⟨_, _, rfl, ⟨none, 0, rfl, rfl⟩, (H33.sep.sub (List.nil_sublist _)).addNil 75 2⟩) | (rw [Note.readBatch_at hfs (k := k) (by omega) (Note.part_not (X := (((Note.whole s).1.drop 3).getD k []).drop 1) ⟨fun h => absurd h (by assumption), fun _ => rfl⟩ (.inl (by assumption)))]; exact ⟨_, _, rfl, ⟨none, 0, rfl, rfl⟩, (H33.sep.sub (List.nil_sublist _)).addNil 75 2⟩) | (rw [Note.readBatch_at hfs (k := k) (by omega) (Note.part_not (X := (((Note.whole s).1.drop 3).getD k []).drop 1) ⟨fun h => absurd h (by assumption), fun _ => rfl⟩ (.inr (by assumption)))]; exact ⟨_, _, rfl, ⟨none, 0, rfl, rfl⟩, (H33.sep.sub (List.nil_sublist _)).addNil 75 2⟩) | (rw [Note.readBatch_at hfs (k := k) (by omega) (Note.part_not (X := []) ⟨fun h => absurd h (by assumption), fun _ => by rw [show (((Note.whole s).1.drop 3).getD k []) = [] by first | assumption | exact Decidable.not_not.1 (by assumption)]; rfl⟩ (.inl (by assumption)))]; exact ⟨_, _, rfl, ⟨none, 0, rfl, rfl⟩, (H33.sep.sub (List.nil_sublist _)).addNil 75 2⟩) | (rw [Note.readBatch_at hfs (k := k) (by omega) (Note.part_not (X := []) ⟨fun h => absurd h (by assumption), fun _ => by rw [show (((Note.whole s).1.drop 3).getD k []) = [] by first | assumption | exact Decidable.not_not.1 (by assumption)]; rfl⟩ (.inr (by assumption)))]; exact ⟨_, _, rfl, ⟨none, 0, rfl, rfl⟩, (H33.sep.sub (List.nil_sublist _)).addNil 75 2⟩) | (rw [Note.readBatch_at hfs (k := k) (by omega) (Note.part_not (X := []) ⟨fun _ => rfl, fun h => absurd (show (((Note.whole s).1.drop 3).getD k []) = [2] by first | assumption | exact Decidable.not_not.1 (by assumption)) h⟩ (.inl (by assumption)))]; exact ⟨_, _, rfl, ⟨none, 0, rfl, rfl⟩, (H33.sep.sub (List.nil_sublist _)).addNil 75 2⟩) | (rw [Note.readBatch_at hfs (k := k) (by omega) (Note.part_not (X := []) ⟨fun _ => rfl, fun h => absurd (show (((Note.whole s).1.drop 3).getD k []) = [2] by first | assumption | exact Decidable.not_not.1 (by assumption)) h⟩ (.inr (by assumption)))]; exact ⟨_, _, rfl, ⟨none, 0, rfl, rfl⟩, (H33.sep.sub (List.nil_sublist _)).addNil 75 2⟩) | (rw [Note.readBatch_bad (Note.fields_some (by assumption) hfi) (by rintro ⟨h1, h2⟩; omega)]; exact ⟨_, _, rfl, ⟨none, 0, rfl, rfl⟩, (H33.sep.sub (List.nil_sublist _)).addNil 75 2⟩) | (rw [Note.readBatch_bad hfs (by rw [Note.nums3]; simp only [decide_eq_true_eq]; omega)]; exact ⟨_, _, rfl, ⟨none, 0, rfl, rfl⟩, (H33.sep.sub (List.nil_sublist _)).addNil 75 2⟩) | (rw [Note.readBatch_ok hfs (by rw [Note.nums3]; exact decide_eq_true (by omega)) (by omega) (k := k) (by omega) hps]; exact ⟨_, _, rfl, ⟨_, _, rfl, rfl⟩, H33.sep.sub (by first | exact S0 | exact S1 | repeat (first | exact S1 | exact S0 | apply S2 | apply S3))⟩)
    · first
      | fail
      | skip
        clear H19; intro H34
        try simp only [decide_eq_true_eq, decide_eq_false_iff_not, Bool.not_eq_true', Bool.not_eq_false', Bool.and_eq_true, Bool.not_eq_true, Bool.not_eq_false] at hg20
        refine plain (y_move rfl rfl) rfl rfl rfl H34 ?_
        clear H34; intro a35 H35
        refine plain (y_not rfl rfl) rfl rfl rfl H35 ?_
        clear H35; intro a36 H36
        refine plain (y_pick_f rfl rfl rfl) rfl rfl rfl H36 ?_
        clear H36; intro a37 H37
        refine plain (y_move rfl rfl) rfl rfl rfl H37 ?_
        clear H37; intro a38 H38
        refine plain (y_move rfl rfl) rfl rfl rfl H38 ?_
        clear H38; intro a39 H39
        refine plain (y_len rfl Tryd.underlying49 rfl) rfl rfl rfl H39 ?_
        clear H39; intro a40 H40
        refine plain (y_gtr rfl rfl rfl) rfl rfl rfl H40 ?_
        clear H40; intro a41 H41
        refine plain (y_pick_f rfl rfl rfl) rfl rfl rfl H41 ?_
        clear H41; intro a42 H42
        refine fin ?_
        refine then_n ?_
        refine cnd H42 rfl (fun hc43 => ?_) (fun hc43 => ?_) -- cond 2
        · skip
          try simp only [decide_eq_true_eq, decide_eq_false_iff_not, Bool.not_eq_true', Bool.not_eq_false', Bool.and_eq_true, Bool.not_eq_true, Bool.not_eq_false] at hc43
          refine wp_seq ?_
          refine reg ?_
          refine plain (y_build rfl z_zeroN42 z_places42 rfl lay_n) rfl rfl rfl H42 ?_
          clear H42; intro a44 H44
          refine st_storeN rfl z_size42 rfl rfl (agg_cells _) (by repeat (first | exact Uh | apply Ut)) (q_one_c4 rfl rfl rfl rfl) q_len_c4 q_len_c4 q_spl_c4_0_c4 (by decide) rfl rfl H44 ?_
          clear H44; intro wx45 H45
          refine plain (y_assign rfl rfl) rfl rfl rfl H45 ?_
          clear H45; intro a46 H46
          refine fin ?_
          refine then_n ?_
          refine wp_ret ?_
          refine then_r ?_
          -- return 2
          refine retct rfl H46 rfl z_agg42 z_size42 (by repeat (first | exact Mh | apply Mt)) q_len_c4 rfl ?_
          first | (rw [Note.readBatch_none (by first | exact Note.fields_none2 hfi | exact Note.fields_none1 (by assumption))]; exact ⟨_, _, rfl, ⟨none, 0, rfl, rfl⟩, (H46.sep.sub (List.nil_sublist _)).addNil 75 2⟩) | (rw [Note.readBatch_at hfs (k := k) (by omega) (Note.part_not (X := (((Note.whole s).1.drop 3).getD k []).drop 1) ⟨fun h => absurd h (by assumption), fun _ => rfl⟩ (.inl (by assumption)))]; exact ⟨_, _, rfl, ⟨none, 0, rfl, rfl⟩, (H46.sep.sub (List.nil_sublist _)).addNil 75 2⟩) | (rw [Note.readBatch_at hfs (k := k) (by omega) (Note.part_not (X := (((Note.whole s).1.drop 3).getD k []).drop 1) ⟨fun h => absurd h (by assumption), fun _ => rfl⟩ (.inr (by assumption)))]; exact ⟨_, _, rfl, ⟨none, 0, rfl, rfl⟩, (H46.sep.sub (List.nil_sublist _)).addNil 75 2⟩) | (rw [Note.readBatch_at hfs (k := k) (by omega) (Note.part_not (X := []) ⟨fun h => absurd h (by assumption), fun _ => by rw [show (((Note.whole s).1.drop 3).getD k []) = [] by first | assumption | exact Decidable.not_not.1 (by assumption)]; rfl⟩ (.inl (by assumption)))]; exact ⟨_, _, rfl, ⟨none, 0, rfl, rfl⟩, (H46.sep.sub (List.nil_sublist _)).addNil 75 2⟩) | (rw [Note.readBatch_at hfs (k := k) (by omega) (Note.part_not (X := []) ⟨fun h => absurd h (by assumption), fun _ => by rw [show (((Note.whole s).1.drop 3).getD k []) = [] by first | assumption | exact Decidable.not_not.1 (by assumption)]; rfl⟩ (.inr (by assumption)))]; exact ⟨_, _, rfl, ⟨none, 0, rfl, rfl⟩, (H46.sep.sub (List.nil_sublist _)).addNil 75 2⟩) | (rw [Note.readBatch_at hfs (k := k) (by omega) (Note.part_not (X := []) ⟨fun _ => rfl, fun h => absurd (show (((Note.whole s).1.drop 3).getD k []) = [2] by first | assumption | exact Decidable.not_not.1 (by assumption)) h⟩ (.inl (by assumption)))]; exact ⟨_, _, rfl, ⟨none, 0, rfl, rfl⟩, (H46.sep.sub (List.nil_sublist _)).addNil 75 2⟩) | (rw [Note.readBatch_at hfs (k := k) (by omega) (Note.part_not (X := []) ⟨fun _ => rfl, fun h => absurd (show (((Note.whole s).1.drop 3).getD k []) = [2] by first | assumption | exact Decidable.not_not.1 (by assumption)) h⟩ (.inr (by assumption)))]; exact ⟨_, _, rfl, ⟨none, 0, rfl, rfl⟩, (H46.sep.sub (List.nil_sublist _)).addNil 75 2⟩) | (rw [Note.readBatch_bad (Note.fields_some (by assumption) hfi) (by rintro ⟨h1, h2⟩; omega)]; exact ⟨_, _, rfl, ⟨none, 0, rfl, rfl⟩, (H46.sep.sub (List.nil_sublist _)).addNil 75 2⟩) | (rw [Note.readBatch_bad hfs (by rw [Note.nums3]; simp only [decide_eq_true_eq]; omega)]; exact ⟨_, _, rfl, ⟨none, 0, rfl, rfl⟩, (H46.sep.sub (List.nil_sublist _)).addNil 75 2⟩) | (rw [Note.readBatch_ok hfs (by rw [Note.nums3]; exact decide_eq_true (by omega)) (by omega) (k := k) (by omega) hps]; exact ⟨_, _, rfl, ⟨_, _, rfl, rfl⟩, H46.sep.sub (by first | exact S0 | exact S1 | repeat (first | exact S1 | exact S0 | apply S2 | apply S3))⟩)
        · skip
          try simp only [decide_eq_true_eq, decide_eq_false_iff_not, Bool.not_eq_true', Bool.not_eq_false', Bool.and_eq_true, Bool.not_eq_true, Bool.not_eq_false] at hc43
          refine wp_skip ?_
          refine then_n ?_
          refine wp_seq ?_
          have hfs := Note.fields_some (by assumption) hfi
          refine hreg _ (fun _ h => h) (by kernel_rfl) H42 ?_
          clear H42; intro wx47 H47
          refine htake 0 rfl (by kernel_rfl) (y_move rfl rfl) rfl rfl rfl (fun _ h => (h.sub (by first | exact S0 | exact S1 | repeat (first | exact S1 | exact S0 | apply S2 | apply S3)))) H47 ?_
          clear H47; intro a48 H48
          refine htake 1 rfl (by kernel_rfl) (y_ixR rfl Tryd.underlying83 z_size3 rfl rfl (by omega) (by omega) (rd_row (by repeat (first | exact Mh | apply Mt))) (by rw [List.length_map]; first | omega | (simp; done))) rfl rfl rfl (fun _ h => (h.sub (by first | exact S0 | exact S1 | repeat (first | exact S1 | exact S0 | apply S2 | apply S3)))) H48 ?_
          clear H48; intro a49 H49
          refine htake 2 rfl (by kernel_rfl) (y_loadR rfl z_agg3 rfl (rd_row (by repeat (first | exact Mh | apply Mt))) rfl) rfl rfl rfl (fun _ h => (h.sub (by first | exact S0 | exact S1 | repeat (first | exact S1 | exact S0 | apply S2 | apply S3)))) H49 ?_
          clear H49; intro a50 H50
          refine htake 3 rfl (by kernel_rfl) (y_move rfl rfl) rfl rfl rfl (fun _ h => (h.sub (by first | exact S0 | exact S1 | repeat (first | exact S1 | exact S0 | apply S2 | apply S3)))) H50 ?_
          clear H50; intro a51 H51
          refine htake 4 rfl (by kernel_rfl) (y_ixR rfl Tryd.underlying83 z_size3 rfl rfl (by omega) (by omega) (rd_row (by repeat (first | exact Mh | apply Mt))) (by rw [List.length_map]; first | omega | (simp; done))) rfl rfl rfl (fun _ h => (h.sub (by first | exact S0 | exact S1 | repeat (first | exact S1 | exact S0 | apply S2 | apply S3)))) H51 ?_
          clear H51; intro a52 H52
          refine htake 5 rfl (by kernel_rfl) (y_loadR rfl z_agg3 rfl (rd_row (by repeat (first | exact Mh | apply Mt))) rfl) rfl rfl rfl (fun _ h => (h.sub (by first | exact S0 | exact S1 | repeat (first | exact S1 | exact S0 | apply S2 | apply S3)))) H52 ?_
          clear H52; intro a53 H53
          refine htake 6 rfl (by kernel_rfl) (y_move rfl rfl) rfl rfl rfl (fun _ h => (h.sub (by first | exact S0 | exact S1 | repeat (first | exact S1 | exact S0 | apply S2 | apply S3)))) H53 ?_
          clear H53; intro a54 H54
          refine htake 7 rfl (by kernel_rfl) (y_ixR rfl Tryd.underlying83 z_size3 rfl rfl (by omega) (by omega) (rd_row (by repeat (first | exact Mh | apply Mt))) (by rw [List.length_map]; first | omega | (simp; done))) rfl rfl rfl (fun _ h => (h.sub (by first | exact S0 | exact S1 | repeat (first | exact S1 | exact S0 | apply S2 | apply S3)))) H54 ?_
          clear H54; intro a55 H55
          refine htake 8 rfl (by kernel_rfl) (y_loadR rfl z_agg3 rfl (rd_row (by repeat (first | exact Mh | apply Mt))) rfl) rfl rfl rfl (fun _ h => (h.sub (by first | exact S0 | exact S1 | repeat (first | exact S1 | exact S0 | apply S2 | apply S3)))) H55 ?_
          clear H55; intro a56 H56
          refine htake 9 rfl (by kernel_rfl) (y_build rfl z_zeroN42 z_places42 rfl (lay_1 (off := 0) (n := 4) rfl q_len_c4 (by decide) q_spl_c4_0_c1 (lay_1 (off := 1) (n := 4) rfl q_len_c4 (by decide) q_spl_c4_1_c1 (lay_1 (off := 2) (n := 4) rfl q_len_c4 (by decide) q_spl_c4_2_c1 lay_n (by rfl)) (by rfl)) (by rfl))) rfl rfl rfl (fun _ h => (h.sub (by first | exact S0 | exact S1 | repeat (first | exact S1 | exact S0 | apply S2 | apply S3)))) H56 ?_
          clear H56; intro a57 H57
          refine hgo 10 rfl (by kernel_rfl) ?_
          refine st_alloc rfl z_zeroN42 rfl rfl rfl H57 ?_
          clear H57; intro b58 a58 wx58 H58
          refine hfin (H58.sep.sub (by first | exact S0 | exact S1 | repeat (first | exact S1 | exact S0 | apply S2 | apply S3))) ?_
          refine hgo 11 rfl (by kernel_rfl) ?_
          refine st_storeN rfl z_size42 rfl rfl (agg_cells _) (by repeat (first | exact Uh | apply Ut)) (q_one_c4 rfl rfl rfl rfl) q_len_c4 q_len_c4 q_spl_c4_0_c4 (by decide) rfl rfl H58 ?_
          clear H58; intro wx59 H59
          refine hfin (H59.sep.sub (by first | exact S0 | exact S1 | repeat (first | exact S1 | exact S0 | apply S2 | apply S3))) ?_
          refine hdone (by kernel_rfl) ?_
          refine then_n ?_
          refine wp_seq ?_
          refine wp_seq ?_
          refine reg ?_
          refine plain (y_assign rfl rfl) rfl rfl rfl H59 ?_
          clear H59; intro a60 H60
          refine fin ?_
          refine then_n ?_
          refine wp_block ?_
          replace H60 := H60.nilRow 75 2
          refine loop (ι := Nat × List Note.Part × Value) (fun x => [(2, .pointer (some ⟨b1, 0, none⟩)), (4, .slice ArL (Note.whole s).1.length crL), (8, .pointer (some ⟨b58, 0, none⟩)), (9, .int .i64 ((3 + x.1 : Nat) : Int))]) (fun x => [It.row 75 2 x.2.2 x.2.1.length (Note.pc x.2.1), It.blk b58 42 [i64 n0, i64 n1, i64 n2, x.2.2], It.row 9 1 (.slice ArL (Note.whole s).1.length crL) (Note.whole s).1.length ((Note.whole s).1.map str), It.blk b1 42 [i64 0, i64 0, i64 0, .slice none 0 0]]) (fun x => 3 + x.1 ≤ (Note.whole s).1.length ∧ x.2.1.length ≤ x.1 ∧ Note.parts (((Note.whole s).1.drop 3).take x.1) = some x.2.1) (fun x => (Note.whole s).1.length - x.1) ((0, [], .slice none 0 0)) ⟨Note.first_len hfi, Nat.zero_le _, rfl⟩ ((H60.drop (by first | exact S0 | exact S1 | repeat (first | exact S1 | exact S0 | apply S2 | apply S3))).weak ⟨rfl, rfl, rfl, rfl, trivial⟩ (ir2 rfl rfl rfl)) ?_
          clear H60; intro x a61 wx61 hok61 H61
          obtain ⟨k, ps, v⟩ := x
          dsimp only at hok61 H61
          obtain ⟨hk3, hpsl, hps⟩ := hok61
          have htl := fun h : k < ((Note.whole s).1.drop 3).length => hLb (((Note.whole s).1.drop 3).getD k []) (by rw [Oct.getD_eq [] h]; exact List.mem_of_mem_drop (List.getElem_mem _))
          obtain ⟨Av, cv, hv, hRv, hmv⟩ := row_shape (v := v) H61.sep (by repeat (first | exact Mh | apply Mt))
          subst hv
          refine wp_seq ?_
          refine wp_seq ?_
          refine reg ?_
          refine plain (y_move rfl rfl) rfl rfl rfl H61 ?_
          clear H61; intro a62 H62
          refine plain (y_move rfl rfl) rfl rfl rfl H62 ?_
          clear H62; intro a63 H63
          refine plain (y_len rfl Tryd.underlying49 rfl) rfl rfl rfl H63 ?_
          clear H63; intro a64 H64
          refine plain (y_lss rfl rfl rfl) rfl rfl rfl H64 ?_
          clear H64; intro a65 H65
          refine fin ?_
          refine then_n ?_
          refine cnd H65 rfl (fun hc66 => ?_) (fun hc66 => ?_) -- cond 3
          · skip
            try simp only [decide_eq_true_eq, decide_eq_false_iff_not, Bool.not_eq_true', Bool.not_eq_false', Bool.and_eq_true, Bool.not_eq_true, Bool.not_eq_false] at hc66
            refine wp_skip ?_
            refine then_n ?_
            refine wp_seq ?_
            refine wp_block ?_
            refine wp_seq ?_
            refine reg ?_
            refine plain (y_move rfl rfl) rfl rfl rfl H65 ?_
            clear H65; intro a67 H67
            refine plain (y_move rfl rfl) rfl rfl rfl H67 ?_
            clear H67; intro a68 H68
            refine plain (y_ixR rfl Tryd.underlying49 z_size9 rfl rfl (by omega) (by omega) (rd_row (by repeat (first | exact Mh | apply Mt))) (by rw [List.length_map]; first | omega | (simp; done))) rfl rfl rfl H68 ?_
            clear H68; intro a69 H69
            refine plain (y_loadR rfl z_agg9 rfl (rd_row (by repeat (first | exact Mh | apply Mt))) (show _ = some (str (((Note.whole s).1.drop 3).getD k [])) by rw [show ((3 + k : Nat) : Int).toNat * 1 = 3 + k by omega]; exact Note.rest_at 3 k (by omega))) rfl rfl rfl H69 ?_
            clear H69; intro a70 H70
            refine plain (y_seql rfl rfl rfl) rfl rfl rfl H70 ?_
            clear H70; intro a71 H71
            refine plain (y_build rfl z_zeroN75 z_places75 rfl (lay_1 (off := 0) (n := 2) rfl q_len_c2 (by decide) q_spl_c2_0_c1 lay_n (by rfl))) rfl rfl rfl H71 ?_
            clear H71; intro a72 H72
            refine st_alloc rfl z_zeroN75 rfl rfl rfl H72 ?_
            clear H72; intro b73 a73 wx73 H73
            refine st_storeN rfl z_size75 rfl rfl (agg_cells _) (by repeat (first | exact Uh | apply Ut)) (q_one_c2 rfl rfl) q_len_c2 q_len_c2 q_spl_c2_0_c2 (by decide) rfl rfl H73 ?_
            clear H73; intro wx74 H74
            refine fin ?_
            refine then_n ?_
            refine wp_seq ?_
            refine wp_seq ?_
            refine reg ?_
            refine plain (y_fieldB rfl z_field75_0 rfl (by first | (simp only [Nat.zero_add, Nat.add_zero, Nat.reduceAdd]; rfl) | rfl)) rfl rfl rfl H74 ?_
            clear H74; intro a75 H75
            refine plain (y_loadB rfl z_agg4 rfl (by repeat (first | exact Mh | apply Mt)) q_ix_c2_0) rfl rfl rfl H75 ?_
            clear H75; intro a76 H76
            refine plain ((by first | exact y_not_d rfl rfl | exact y_not rfl rfl)) rfl rfl rfl H76 ?_
            clear H76; intro a77 H77
            refine plain (y_move rfl rfl) rfl rfl rfl H77 ?_
            clear H77; intro a78 H78
            refine Sx.part (d := 60) H78 rfl (fun hg79 => ?_) (fun hg79 => ?_)
            · first
              | fail
              | skip
                clear H78; intro H80
                try simp only [decide_eq_true_eq, decide_eq_false_iff_not, Bool.not_eq_true', Bool.not_eq_false', Bool.and_eq_true, Bool.not_eq_true, Bool.not_eq_false] at hg79
                refine plain (y_move rfl rfl) rfl rfl rfl H80 ?_
                clear H80; intro a81 H81
                refine plain (y_move rfl rfl) rfl rfl rfl H81 ?_
                clear H81; intro a82 H82
                refine plain (y_ixR rfl Tryd.underlying49 z_size9 rfl rfl (by omega) (by omega) (rd_row (by repeat (first | exact Mh | apply Mt))) (by rw [List.length_map]; first | omega | (simp; done))) rfl rfl rfl H82 ?_
                clear H82; intro a83 H83
                refine plain (y_loadR rfl z_agg9 rfl (rd_row (by repeat (first | exact Mh | apply Mt))) (show _ = some (str (((Note.whole s).1.drop 3).getD k [])) by rw [show ((3 + k : Nat) : Int).toNat * 1 = 3 + k by omega]; exact Note.rest_at 3 k (by omega))) rfl rfl rfl H83 ?_
                clear H83; intro a84 H84
                refine plain (y_sneq rfl rfl rfl) rfl rfl rfl H84 ?_
                clear H84; intro a85 H85
                refine plain (y_pick_t rfl rfl rfl) rfl rfl rfl H85 ?_
                clear H85; intro a86 H86
                refine fin ?_
                refine then_n ?_
                refine cnd H86 rfl (fun hc87 => ?_) (fun hc87 => ?_) -- cond 4
                · skip
                  try simp only [decide_eq_true_eq, decide_eq_false_iff_not, Bool.not_eq_true', Bool.not_eq_false', Bool.and_eq_true, Bool.not_eq_true, Bool.not_eq_false] at hc87
                  refine reg ?_
                  refine plain (y_move rfl rfl) rfl rfl rfl H86 ?_
                  clear H86; intro a88 H88
                  refine plain (y_move rfl rfl) rfl rfl rfl H88 ?_
                  clear H88; intro a89 H89
                  refine plain (y_ixR rfl Tryd.underlying49 z_size9 rfl rfl (by omega) (by omega) (rd_row (by repeat (first | exact Mh | apply Mt))) (by rw [List.length_map]; first | omega | (simp; done))) rfl rfl rfl H89 ?_
                  clear H89; intro a90 H90
                  refine plain (y_loadR rfl z_agg9 rfl (rd_row (by repeat (first | exact Mh | apply Mt))) (show _ = some (str (((Note.whole s).1.drop 3).getD k [])) by rw [show ((3 + k : Nat) : Int).toNat * 1 = 3 + k by omega]; exact Note.rest_at 3 k (by omega))) rfl rfl rfl H90 ?_
                  clear H90; intro a91 H91
                  have hne : 0 < (((Note.whole s).1.drop 3).getD k []).length := List.length_pos_iff.2 (by assumption)
                  refine plain (y_sslice_lo rfl Tryd.underlying9 rfl rfl (by omega) (by omega)) rfl rfl rfl H91 ?_
                  clear H91; intro a92 H92
                  refine plain (y_fieldB rfl z_field75_1 rfl (by first | (simp only [Nat.zero_add, Nat.add_zero, Nat.reduceAdd]; rfl) | rfl)) rfl rfl rfl H92 ?_
                  clear H92; intro a93 H93
                  refine st_store1N rfl z_size9 rfl rfl rfl (by repeat (first | exact Uh | apply Ut)) q_len_c2 q_set_c2_1 (by decide) rfl rfl H93 ?_
                  clear H93; intro wx94 H94
                  refine fin ?_
                  refine then_n ?_
                  refine wp_seq ?_
                  refine reg ?_
                  refine plain (y_loadAB rfl z_agg75 z_size75 rfl (by repeat (first | exact Mh | apply Mt)) q_ld_c2_0_2 q_len_c2) rfl rfl rfl H94 ?_
                  clear H94; intro a95 H95
                  refine st_callg rfl z_call48 rfl rfl rfl rfl H95 (rpart ⟨decide ((((Note.whole s).1.drop 3).getD k []) = [2]), _⟩ (by first | (simp only [List.length_nil]; omega) | (simp only [List.length_drop]; omega)) _) ?_
                  clear H95; intro a96 wx96 H96
                  refine plain (y_move rfl rfl) rfl rfl rfl H96 ?_
                  clear H96; intro a97 H97
                  refine plain (y_extract rfl rfl rfl) rfl rfl rfl H97 ?_
                  clear H97; intro a98 H98
                  refine plain (y_extract rfl rfl rfl) rfl rfl rfl H98 ?_
                  clear H98; intro a99 H99
                  refine plain (y_assign rfl rfl) rfl rfl rfl H99 ?_
                  clear H99; intro a100 H100
                  refine plain (y_assign rfl rfl) rfl rfl rfl H100 ?_
                  clear H100; intro a101 H101
                  refine fin ?_
                  refine then_n ?_
                  refine wp_seq ?_
                  refine wp_seq ?_
                  refine reg ?_
                  refine plain (y_move rfl rfl) rfl rfl rfl H101 ?_
                  clear H101; intro a102 H102
                  refine plain ((by first | exact y_not_d rfl rfl | exact y_not rfl rfl)) rfl rfl rfl H102 ?_
                  clear H102; intro a103 H103
                  refine plain (y_move rfl rfl) rfl rfl rfl H103 ?_
                  clear H103; intro a104 H104
                  refine Sx.part (d := 80) H104 rfl (fun hg105 => ?_) (fun hg105 => ?_)
                  · first
                    | fail
                    | skip
                      clear H104; intro H106
                      try simp only [decide_eq_true_eq, decide_eq_false_iff_not, Bool.not_eq_true', Bool.not_eq_false', Bool.and_eq_true, Bool.not_eq_true, Bool.not_eq_false] at hg105
                      refine skip rfl rfl rfl H106 ?_
                      clear H106; intro a107 H107
                      refine skip rfl rfl rfl H107 ?_
                      clear H107; intro a108 H108
                      refine skip rfl rfl rfl H108 ?_
                      clear H108; intro a109 H109
                      refine skip rfl rfl rfl H109 ?_
                      clear H109; intro a110 H110
                      refine skip rfl rfl rfl H110 ?_
                      clear H110; intro a111 H111
                      refine skip rfl rfl rfl H111 ?_
                      clear H111; intro a112 H112
                      refine plain (y_pick_t rfl rfl rfl) rfl rfl rfl H112 ?_
                      clear H112; intro a113 H113
                      refine fin ?_
                      refine then_n ?_
                      refine cnd_t H113 rfl ?_
                      refine wp_seq ?_
                      refine reg ?_
                      refine plain (y_build rfl z_zeroN42 z_places42 rfl lay_n) rfl rfl rfl H113 ?_
                      clear H113; intro a115 H115
                      refine st_storeN rfl z_size42 rfl rfl (agg_cells _) (by repeat (first | exact Uh | apply Ut)) (q_one_c4 rfl rfl rfl rfl) q_len_c4 q_len_c4 q_spl_c4_0_c4 (by decide) rfl rfl H115 ?_
                      clear H115; intro wx116 H116
                      refine plain (y_assign rfl rfl) rfl rfl rfl H116 ?_
                      clear H116; intro a117 H117
                      refine fin ?_
                      refine then_n ?_
                      refine wp_ret ?_
                      refine then_r ?_
                      refine inb_r ?_
                      refine then_r ?_
                      refine then_r ?_
                      refine inb_r ?_
                      refine then_r ?_
                      -- return 3
                      refine retct rfl H117 rfl z_agg42 z_size42 (by repeat (first | exact Mh | apply Mt)) q_len_c4 rfl ?_
                      first | (rw [Note.readBatch_none (by first | exact Note.fields_none2 hfi | exact Note.fields_none1 (by assumption))]; exact ⟨_, _, rfl, ⟨none, 0, rfl, rfl⟩, (H117.sep.sub (List.nil_sublist _)).addNil 75 2⟩) | (rw [Note.readBatch_at hfs (k := k) (by omega) (Note.part_not (X := (((Note.whole s).1.drop 3).getD k []).drop 1) ⟨fun h => absurd h (by assumption), fun _ => rfl⟩ (.inl (by assumption)))]; exact ⟨_, _, rfl, ⟨none, 0, rfl, rfl⟩, (H117.sep.sub (List.nil_sublist _)).addNil 75 2⟩) | (rw [Note.readBatch_at hfs (k := k) (by omega) (Note.part_not (X := (((Note.whole s).1.drop 3).getD k []).drop 1) ⟨fun h => absurd h (by assumption), fun _ => rfl⟩ (.inr (by assumption)))]; exact ⟨_, _, rfl, ⟨none, 0, rfl, rfl⟩, (H117.sep.sub (List.nil_sublist _)).addNil 75 2⟩) | (rw [Note.readBatch_at hfs (k := k) (by omega) (Note.part_not (X := []) ⟨fun h => absurd h (by assumption), fun _ => by rw [show (((Note.whole s).1.drop 3).getD k []) = [] by first | assumption | exact Decidable.not_not.1 (by assumption)]; rfl⟩ (.inl (by assumption)))]; exact ⟨_, _, rfl, ⟨none, 0, rfl, rfl⟩, (H117.sep.sub (List.nil_sublist _)).addNil 75 2⟩) | (rw [Note.readBatch_at hfs (k := k) (by omega) (Note.part_not (X := []) ⟨fun h => absurd h (by assumption), fun _ => by rw [show (((Note.whole s).1.drop 3).getD k []) = [] by first | assumption | exact Decidable.not_not.1 (by assumption)]; rfl⟩ (.inr (by assumption)))]; exact ⟨_, _, rfl, ⟨none, 0, rfl, rfl⟩, (H117.sep.sub (List.nil_sublist _)).addNil 75 2⟩) | (rw [Note.readBatch_at hfs (k := k) (by omega) (Note.part_not (X := []) ⟨fun _ => rfl, fun h => absurd (show (((Note.whole s).1.drop 3).getD k []) = [2] by first | assumption | exact Decidable.not_not.1 (by assumption)) h⟩ (.inl (by assumption)))]; exact ⟨_, _, rfl, ⟨none, 0, rfl, rfl⟩, (H117.sep.sub (List.nil_sublist _)).addNil 75 2⟩) | (rw [Note.readBatch_at hfs (k := k) (by omega) (Note.part_not (X := []) ⟨fun _ => rfl, fun h => absurd (show (((Note.whole s).1.drop 3).getD k []) = [2] by first | assumption | exact Decidable.not_not.1 (by assumption)) h⟩ (.inr (by assumption)))]; exact ⟨_, _, rfl, ⟨none, 0, rfl, rfl⟩, (H117.sep.sub (List.nil_sublist _)).addNil 75 2⟩) | (rw [Note.readBatch_bad (Note.fields_some (by assumption) hfi) (by rintro ⟨h1, h2⟩; omega)]; exact ⟨_, _, rfl, ⟨none, 0, rfl, rfl⟩, (H117.sep.sub (List.nil_sublist _)).addNil 75 2⟩) | (rw [Note.readBatch_bad hfs (by rw [Note.nums3]; simp only [decide_eq_true_eq]; omega)]; exact ⟨_, _, rfl, ⟨none, 0, rfl, rfl⟩, (H117.sep.sub (List.nil_sublist _)).addNil 75 2⟩) | (rw [Note.readBatch_ok hfs (by rw [Note.nums3]; exact decide_eq_true (by omega)) (by omega) (k := k) (by omega) hps]; exact ⟨_, _, rfl, ⟨_, _, rfl, rfl⟩, H117.sep.sub (by first | exact S0 | exact S1 | repeat (first | exact S1 | exact S0 | apply S2 | apply S3))⟩)
                  · first
                    | fail
                    | skip
                      clear H104; intro H118
                      try simp only [decide_eq_true_eq, decide_eq_false_iff_not, Bool.not_eq_true', Bool.not_eq_false', Bool.and_eq_true, Bool.not_eq_true, Bool.not_eq_false] at hg105
                      refine plain (y_move rfl rfl) rfl rfl rfl H118 ?_
                      clear H118; intro a119 H119
                      refine plain (y_move rfl rfl) rfl rfl rfl H119 ?_
                      clear H119; intro a120 H120
                      refine plain (y_move rfl rfl) rfl rfl rfl H120 ?_
                      clear H120; intro a121 H121
                      refine plain (y_ixR rfl Tryd.underlying49 z_size9 rfl rfl (by omega) (by omega) (rd_row (by repeat (first | exact Mh | apply Mt))) (by rw [List.length_map]; first | omega | (simp; done))) rfl rfl rfl H121 ?_
                      clear H121; intro a122 H122
                      refine plain (y_loadR rfl z_agg9 rfl (rd_row (by repeat (first | exact Mh | apply Mt))) (show _ = some (str (((Note.whole s).1.drop 3).getD k [])) by rw [show ((3 + k : Nat) : Int).toNat * 1 = 3 + k by omega]; exact Note.rest_at 3 k (by omega))) rfl rfl rfl H122 ?_
                      clear H122; intro a123 H123
                      refine plain (y_sneq rfl rfl rfl) rfl rfl rfl H123 ?_
                      clear H123; intro a124 H124
                      refine plain (y_pick_f rfl rfl rfl) rfl rfl rfl H124 ?_
                      clear H124; intro a125 H125
                      refine fin ?_
                      refine then_n ?_
                      refine cnd H125 rfl (fun hc126 => ?_) (fun hc126 => ?_) -- cond 6
                      · skip
                        try simp only [decide_eq_true_eq, decide_eq_false_iff_not, Bool.not_eq_true', Bool.not_eq_false', Bool.and_eq_true, Bool.not_eq_true, Bool.not_eq_false] at hc126
                        refine wp_seq ?_
                        refine reg ?_
                        refine plain (y_build rfl z_zeroN42 z_places42 rfl lay_n) rfl rfl rfl H125 ?_
                        clear H125; intro a127 H127
                        refine st_storeN rfl z_size42 rfl rfl (agg_cells _) (by repeat (first | exact Uh | apply Ut)) (q_one_c4 rfl rfl rfl rfl) q_len_c4 q_len_c4 q_spl_c4_0_c4 (by decide) rfl rfl H127 ?_
                        clear H127; intro wx128 H128
                        refine plain (y_assign rfl rfl) rfl rfl rfl H128 ?_
                        clear H128; intro a129 H129
                        refine fin ?_
                        refine then_n ?_
                        refine wp_ret ?_
                        refine then_r ?_
                        refine inb_r ?_
                        refine then_r ?_
                        refine then_r ?_
                        refine inb_r ?_
                        refine then_r ?_
                        -- return 4
                        refine retct rfl H129 rfl z_agg42 z_size42 (by repeat (first | exact Mh | apply Mt)) q_len_c4 rfl ?_
                        first | (rw [Note.readBatch_none (by first | exact Note.fields_none2 hfi | exact Note.fields_none1 (by assumption))]; exact ⟨_, _, rfl, ⟨none, 0, rfl, rfl⟩, (H129.sep.sub (List.nil_sublist _)).addNil 75 2⟩) | (rw [Note.readBatch_at hfs (k := k) (by omega) (Note.part_not (X := (((Note.whole s).1.drop 3).getD k []).drop 1) ⟨fun h => absurd h (by assumption), fun _ => rfl⟩ (.inl (by assumption)))]; exact ⟨_, _, rfl, ⟨none, 0, rfl, rfl⟩, (H129.sep.sub (List.nil_sublist _)).addNil 75 2⟩) | (rw [Note.readBatch_at hfs (k := k) (by omega) (Note.part_not (X := (((Note.whole s).1.drop 3).getD k []).drop 1) ⟨fun h => absurd h (by assumption), fun _ => rfl⟩ (.inr (by assumption)))]; exact ⟨_, _, rfl, ⟨none, 0, rfl, rfl⟩, (H129.sep.sub (List.nil_sublist _)).addNil 75 2⟩) | (rw [Note.readBatch_at hfs (k := k) (by omega) (Note.part_not (X := []) ⟨fun h => absurd h (by assumption), fun _ => by rw [show (((Note.whole s).1.drop 3).getD k []) = [] by first | assumption | exact Decidable.not_not.1 (by assumption)]; rfl⟩ (.inl (by assumption)))]; exact ⟨_, _, rfl, ⟨none, 0, rfl, rfl⟩, (H129.sep.sub (List.nil_sublist _)).addNil 75 2⟩) | (rw [Note.readBatch_at hfs (k := k) (by omega) (Note.part_not (X := []) ⟨fun h => absurd h (by assumption), fun _ => by rw [show (((Note.whole s).1.drop 3).getD k []) = [] by first | assumption | exact Decidable.not_not.1 (by assumption)]; rfl⟩ (.inr (by assumption)))]; exact ⟨_, _, rfl, ⟨none, 0, rfl, rfl⟩, (H129.sep.sub (List.nil_sublist _)).addNil 75 2⟩) | (rw [Note.readBatch_at hfs (k := k) (by omega) (Note.part_not (X := []) ⟨fun _ => rfl, fun h => absurd (show (((Note.whole s).1.drop 3).getD k []) = [2] by first | assumption | exact Decidable.not_not.1 (by assumption)) h⟩ (.inl (by assumption)))]; exact ⟨_, _, rfl, ⟨none, 0, rfl, rfl⟩, (H129.sep.sub (List.nil_sublist _)).addNil 75 2⟩) | (rw [Note.readBatch_at hfs (k := k) (by omega) (Note.part_not (X := []) ⟨fun _ => rfl, fun h => absurd (show (((Note.whole s).1.drop 3).getD k []) = [2] by first | assumption | exact Decidable.not_not.1 (by assumption)) h⟩ (.inr (by assumption)))]; exact ⟨_, _, rfl, ⟨none, 0, rfl, rfl⟩, (H129.sep.sub (List.nil_sublist _)).addNil 75 2⟩) | (rw [Note.readBatch_bad (Note.fields_some (by assumption) hfi) (by rintro ⟨h1, h2⟩; omega)]; exact ⟨_, _, rfl, ⟨none, 0, rfl, rfl⟩, (H129.sep.sub (List.nil_sublist _)).addNil 75 2⟩) | (rw [Note.readBatch_bad hfs (by rw [Note.nums3]; simp only [decide_eq_true_eq]; omega)]; exact ⟨_, _, rfl, ⟨none, 0, rfl, rfl⟩, (H129.sep.sub (List.nil_sublist _)).addNil 75 2⟩) | (rw [Note.readBatch_ok hfs (by rw [Note.nums3]; exact decide_eq_true (by omega)) (by omega) (k := k) (by omega) hps]; exact ⟨_, _, rfl, ⟨_, _, rfl, rfl⟩, H129.sep.sub (by first | exact S0 | exact S1 | repeat (first | exact S1 | exact S0 | apply S2 | apply S3))⟩)
                      · skip
                        try simp only [decide_eq_true_eq, decide_eq_false_iff_not, Bool.not_eq_true', Bool.not_eq_false', Bool.and_eq_true, Bool.not_eq_true, Bool.not_eq_false] at hc126
                        refine wp_skip ?_
                        refine then_n ?_
                        refine reg ?_
                        refine plain (y_fieldB rfl z_field42_3 rfl (by first | (simp only [Nat.zero_add, Nat.add_zero, Nat.reduceAdd]; rfl) | rfl)) rfl rfl rfl H125 ?_
                        clear H125; intro a130 H130
                        refine plain (y_loadB rfl z_agg40 rfl (by repeat (first | exact Mh | apply Mt)) q_ix_c4_3) rfl rfl rfl H130 ?_
                        clear H130; intro a131 H131
                        refine plain (y_loadAB rfl z_agg75 z_size75 rfl (by repeat (first | exact Mh | apply Mt)) q_ld_c2_0_2 q_len_c2) rfl rfl rfl H131 ?_
                        clear H131; intro a132 H132
                        refine st_buildSlice rfl Tryd.underlying40 z_size75 z_zero75 rfl rfl rfl (lay_agg (agg_cells _) rfl (by simp)) rfl rfl rfl H132 ?_
                        clear H132; intro b133 a133 wx133 H133
                        refine st_append rfl z_slice40 z_notint40 rfl rfl (fun _ => (by repeat (first | exact Uh | apply Ut))) (fun w hs => Src.slice ((rd_blkA (by repeat (first | exact Mh | apply Mt))) w hs) rfl (by simp [Value.oneCell'])) (by unfold maxLen at *; first | omega | (simp only [List.length_cons, List.length_nil, List.length_append, List.length_map]; omega)) (by omega) rfl rfl rfl H133 ?_
                        clear H133; intro v134 a134 wx134 hnil134 H134
                        obtain ⟨Ar134, cr134, hvr134, hRr134, hmr134⟩ := row_shape (v := v134) H134.sep (by repeat (first | exact Mh | apply Mt))
                        subst hvr134
                        refine plain (y_fieldB rfl z_field42_3 rfl (by first | (simp only [Nat.zero_add, Nat.add_zero, Nat.reduceAdd]; rfl) | rfl)) rfl rfl rfl H134 ?_
                        clear H134; intro a135 H135
                        refine st_store1N rfl z_size40 rfl rfl rfl (by repeat (first | exact Uh | apply Ut)) q_len_c4 q_set_c4_3 (by decide) rfl rfl H135 ?_
                        clear H135; intro wx136 H136
                        refine fin ?_
                        refine inb_n ?_
                        refine then_n ?_
                        refine reg ?_
                        refine plain (y_move rfl rfl) rfl rfl rfl H136 ?_
                        clear H136; intro a137 H137
                        refine plain (y_add rfl rfl rfl (by first | exact w64 (by omega) (by omega) | rfl)) rfl rfl rfl H137 ?_
                        clear H137; intro a138 H138
                        refine plain (y_assign rfl rfl) rfl rfl rfl H138 ?_
                        clear H138; intro a139 H139
                        refine fin ?_
                        refine then_n ?_
                        refine ⟨(k + 1, ps ++ [⟨decide ((((Note.whole s).1.drop 3).getD k []) = [2]), (((Note.whole s).1.drop 3).getD k []).drop 1⟩], (.slice Ar134 _ cr134)), by dsimp only; omega, ⟨by dsimp only; omega, by dsimp only; rw [List.length_append, List.length_singleton]; omega, ?_⟩, (H139.drop (by first | exact S0 | exact S1 | repeat (first | exact S1 | exact S0 | apply S2 | apply S3))).weak ⟨rfl, rfl, rfl, fi rfl (by dsimp only; omega), trivial⟩ (ir2 (by simp) (by rw [Note.pc_append, Note.pc_one]; rfl) rfl)⟩
                        exact Note.parts_step (by omega) hps (Note.part_same ⟨fun h => absurd h (by assumption), fun _ => rfl⟩ (by assumption) (Decidable.not_not.1 (by assumption)))
                · skip
                  try simp only [decide_eq_true_eq, decide_eq_false_iff_not, Bool.not_eq_true', Bool.not_eq_false', Bool.and_eq_true, Bool.not_eq_true, Bool.not_eq_false] at hc87
                  refine wp_skip ?_
                  refine then_n ?_
                  refine wp_seq ?_
                  refine reg ?_
                  refine plain (y_loadAB rfl z_agg75 z_size75 rfl (by repeat (first | exact Mh | apply Mt)) q_ld_c2_0_2 q_len_c2) rfl rfl rfl H86 ?_
                  clear H86; intro a140 H140
                  refine st_callg rfl z_call48 rfl rfl rfl rfl H140 (rpart ⟨decide ((((Note.whole s).1.drop 3).getD k []) = [2]), _⟩ (by first | (simp only [List.length_nil]; omega) | (simp only [List.length_drop]; omega)) _) ?_
                  clear H140; intro a141 wx141 H141
                  refine plain (y_move rfl rfl) rfl rfl rfl H141 ?_
                  clear H141; intro a142 H142
                  refine plain (y_extract rfl rfl rfl) rfl rfl rfl H142 ?_
                  clear H142; intro a143 H143
                  refine plain (y_extract rfl rfl rfl) rfl rfl rfl H143 ?_
                  clear H143; intro a144 H144
                  refine plain (y_assign rfl rfl) rfl rfl rfl H144 ?_
                  clear H144; intro a145 H145
                  refine plain (y_assign rfl rfl) rfl rfl rfl H145 ?_
                  clear H145; intro a146 H146
                  refine fin ?_
                  refine then_n ?_
                  refine wp_seq ?_
                  refine wp_seq ?_
                  refine reg ?_
                  refine plain (y_move rfl rfl) rfl rfl rfl H146 ?_
                  clear H146; intro a147 H147
                  refine plain ((by first | exact y_not_d rfl rfl | exact y_not rfl rfl)) rfl rfl rfl H147 ?_
                  clear H147; intro a148 H148
                  refine plain (y_move rfl rfl) rfl rfl rfl H148 ?_
                  clear H148; intro a149 H149
                  refine Sx.part (d := 80) H149 rfl (fun hg150 => ?_) (fun hg150 => ?_)
                  · first
                    | fail
                    | skip
                      clear H149; intro H151
                      try simp only [decide_eq_true_eq, decide_eq_false_iff_not, Bool.not_eq_true', Bool.not_eq_false', Bool.and_eq_true, Bool.not_eq_true, Bool.not_eq_false] at hg150
                      refine skip rfl rfl rfl H151 ?_
                      clear H151; intro a152 H152
                      refine skip rfl rfl rfl H152 ?_
                      clear H152; intro a153 H153
                      refine skip rfl rfl rfl H153 ?_
                      clear H153; intro a154 H154
                      refine skip rfl rfl rfl H154 ?_
                      clear H154; intro a155 H155
                      refine skip rfl rfl rfl H155 ?_
                      clear H155; intro a156 H156
                      refine skip rfl rfl rfl H156 ?_
                      clear H156; intro a157 H157
                      refine plain (y_pick_t rfl rfl rfl) rfl rfl rfl H157 ?_
                      clear H157; intro a158 H158
                      refine fin ?_
                      refine then_n ?_
                      refine cnd_t H158 rfl ?_
                      refine wp_seq ?_
                      refine reg ?_
                      refine plain (y_build rfl z_zeroN42 z_places42 rfl lay_n) rfl rfl rfl H158 ?_
                      clear H158; intro a160 H160
                      refine st_storeN rfl z_size42 rfl rfl (agg_cells _) (by repeat (first | exact Uh | apply Ut)) (q_one_c4 rfl rfl rfl rfl) q_len_c4 q_len_c4 q_spl_c4_0_c4 (by decide) rfl rfl H160 ?_
                      clear H160; intro wx161 H161
                      refine plain (y_assign rfl rfl) rfl rfl rfl H161 ?_
                      clear H161; intro a162 H162
                      refine fin ?_
                      refine then_n ?_
                      refine wp_ret ?_
                      refine then_r ?_
                      refine inb_r ?_
                      refine then_r ?_
                      refine then_r ?_
                      refine inb_r ?_
                      refine then_r ?_
                      -- return 5
                      refine retct rfl H162 rfl z_agg42 z_size42 (by repeat (first | exact Mh | apply Mt)) q_len_c4 rfl ?_
                      first | (rw [Note.readBatch_none (by first | exact Note.fields_none2 hfi | exact Note.fields_none1 (by assumption))]; exact ⟨_, _, rfl, ⟨none, 0, rfl, rfl⟩, (H162.sep.sub (List.nil_sublist _)).addNil 75 2⟩) | (rw [Note.readBatch_at hfs (k := k) (by omega) (Note.part_not (X := (((Note.whole s).1.drop 3).getD k []).drop 1) ⟨fun h => absurd h (by assumption), fun _ => rfl⟩ (.inl (by assumption)))]; exact ⟨_, _, rfl, ⟨none, 0, rfl, rfl⟩, (H162.sep.sub (List.nil_sublist _)).addNil 75 2⟩) | (rw [Note.readBatch_at hfs (k := k) (by omega) (Note.part_not (X := (((Note.whole s).1.drop 3).getD k []).drop 1) ⟨fun h => absurd h (by assumption), fun _ => rfl⟩ (.inr (by assumption)))]; exact ⟨_, _, rfl, ⟨none, 0, rfl, rfl⟩, (H162.sep.sub (List.nil_sublist _)).addNil 75 2⟩) | (rw [Note.readBatch_at hfs (k := k) (by omega) (Note.part_not (X := []) ⟨fun h => absurd h (by assumption), fun _ => by rw [show (((Note.whole s).1.drop 3).getD k []) = [] by first | assumption | exact Decidable.not_not.1 (by assumption)]; rfl⟩ (.inl (by assumption)))]; exact ⟨_, _, rfl, ⟨none, 0, rfl, rfl⟩, (H162.sep.sub (List.nil_sublist _)).addNil 75 2⟩) | (rw [Note.readBatch_at hfs (k := k) (by omega) (Note.part_not (X := []) ⟨fun h => absurd h (by assumption), fun _ => by rw [show (((Note.whole s).1.drop 3).getD k []) = [] by first | assumption | exact Decidable.not_not.1 (by assumption)]; rfl⟩ (.inr (by assumption)))]; exact ⟨_, _, rfl, ⟨none, 0, rfl, rfl⟩, (H162.sep.sub (List.nil_sublist _)).addNil 75 2⟩) | (rw [Note.readBatch_at hfs (k := k) (by omega) (Note.part_not (X := []) ⟨fun _ => rfl, fun h => absurd (show (((Note.whole s).1.drop 3).getD k []) = [2] by first | assumption | exact Decidable.not_not.1 (by assumption)) h⟩ (.inl (by assumption)))]; exact ⟨_, _, rfl, ⟨none, 0, rfl, rfl⟩, (H162.sep.sub (List.nil_sublist _)).addNil 75 2⟩) | (rw [Note.readBatch_at hfs (k := k) (by omega) (Note.part_not (X := []) ⟨fun _ => rfl, fun h => absurd (show (((Note.whole s).1.drop 3).getD k []) = [2] by first | assumption | exact Decidable.not_not.1 (by assumption)) h⟩ (.inr (by assumption)))]; exact ⟨_, _, rfl, ⟨none, 0, rfl, rfl⟩, (H162.sep.sub (List.nil_sublist _)).addNil 75 2⟩) | (rw [Note.readBatch_bad (Note.fields_some (by assumption) hfi) (by rintro ⟨h1, h2⟩; omega)]; exact ⟨_, _, rfl, ⟨none, 0, rfl, rfl⟩, (H162.sep.sub (List.nil_sublist _)).addNil 75 2⟩) | (rw [Note.readBatch_bad hfs (by rw [Note.nums3]; simp only [decide_eq_true_eq]; omega)]; exact ⟨_, _, rfl, ⟨none, 0, rfl, rfl⟩, (H162.sep.sub (List.nil_sublist _)).addNil 75 2⟩) | (rw [Note.readBatch_ok hfs (by rw [Note.nums3]; exact decide_eq_true (by omega)) (by omega) (k := k) (by omega) hps]; exact ⟨_, _, rfl, ⟨_, _, rfl, rfl⟩, H162.sep.sub (by first | exact S0 | exact S1 | repeat (first | exact S1 | exact S0 | apply S2 | apply S3))⟩)
                  · first
                    | fail
                    | skip
                      clear H149; intro H163
                      try simp only [decide_eq_true_eq, decide_eq_false_iff_not, Bool.not_eq_true', Bool.not_eq_false', Bool.and_eq_true, Bool.not_eq_true, Bool.not_eq_false] at hg150
                      refine plain (y_move rfl rfl) rfl rfl rfl H163 ?_
                      clear H163; intro a164 H164
                      refine plain (y_move rfl rfl) rfl rfl rfl H164 ?_
                      clear H164; intro a165 H165
                      refine plain (y_move rfl rfl) rfl rfl rfl H165 ?_
                      clear H165; intro a166 H166
                      refine plain (y_ixR rfl Tryd.underlying49 z_size9 rfl rfl (by omega) (by omega) (rd_row (by repeat (first | exact Mh | apply Mt))) (by rw [List.length_map]; first | omega | (simp; done))) rfl rfl rfl H166 ?_
                      clear H166; intro a167 H167
                      refine plain (y_loadR rfl z_agg9 rfl (rd_row (by repeat (first | exact Mh | apply Mt))) (show _ = some (str (((Note.whole s).1.drop 3).getD k [])) by rw [show ((3 + k : Nat) : Int).toNat * 1 = 3 + k by omega]; exact Note.rest_at 3 k (by omega))) rfl rfl rfl H167 ?_
                      clear H167; intro a168 H168
                      refine plain (y_sneq rfl rfl rfl) rfl rfl rfl H168 ?_
                      clear H168; intro a169 H169
                      refine plain (y_pick_f rfl rfl rfl) rfl rfl rfl H169 ?_
                      clear H169; intro a170 H170
                      refine fin ?_
                      refine then_n ?_
                      refine cnd H170 rfl (fun hc171 => ?_) (fun hc171 => ?_) -- cond 8
                      · skip
                        try simp only [decide_eq_true_eq, decide_eq_false_iff_not, Bool.not_eq_true', Bool.not_eq_false', Bool.and_eq_true, Bool.not_eq_true, Bool.not_eq_false] at hc171
                        refine wp_seq ?_
                        refine reg ?_
                        refine plain (y_build rfl z_zeroN42 z_places42 rfl lay_n) rfl rfl rfl H170 ?_
                        clear H170; intro a172 H172
                        refine st_storeN rfl z_size42 rfl rfl (agg_cells _) (by repeat (first | exact Uh | apply Ut)) (q_one_c4 rfl rfl rfl rfl) q_len_c4 q_len_c4 q_spl_c4_0_c4 (by decide) rfl rfl H172 ?_
                        clear H172; intro wx173 H173
                        refine plain (y_assign rfl rfl) rfl rfl rfl H173 ?_
                        clear H173; intro a174 H174
                        refine fin ?_
                        refine then_n ?_
                        refine wp_ret ?_
                        refine then_r ?_
                        refine inb_r ?_
                        refine then_r ?_
                        refine then_r ?_
                        refine inb_r ?_
                        refine then_r ?_
                        -- return 6
                        refine retct rfl H174 rfl z_agg42 z_size42 (by repeat (first | exact Mh | apply Mt)) q_len_c4 rfl ?_
                        first | (rw [Note.readBatch_none (by first | exact Note.fields_none2 hfi | exact Note.fields_none1 (by assumption))]; exact ⟨_, _, rfl, ⟨none, 0, rfl, rfl⟩, (H174.sep.sub (List.nil_sublist _)).addNil 75 2⟩) | (rw [Note.readBatch_at hfs (k := k) (by omega) (Note.part_not (X := (((Note.whole s).1.drop 3).getD k []).drop 1) ⟨fun h => absurd h (by assumption), fun _ => rfl⟩ (.inl (by assumption)))]; exact ⟨_, _, rfl, ⟨none, 0, rfl, rfl⟩, (H174.sep.sub (List.nil_sublist _)).addNil 75 2⟩) | (rw [Note.readBatch_at hfs (k := k) (by omega) (Note.part_not (X := (((Note.whole s).1.drop 3).getD k []).drop 1) ⟨fun h => absurd h (by assumption), fun _ => rfl⟩ (.inr (by assumption)))]; exact ⟨_, _, rfl, ⟨none, 0, rfl, rfl⟩, (H174.sep.sub (List.nil_sublist _)).addNil 75 2⟩) | (rw [Note.readBatch_at hfs (k := k) (by omega) (Note.part_not (X := []) ⟨fun h => absurd h (by assumption), fun _ => by rw [show (((Note.whole s).1.drop 3).getD k []) = [] by first | assumption | exact Decidable.not_not.1 (by assumption)]; rfl⟩ (.inl (by assumption)))]; exact ⟨_, _, rfl, ⟨none, 0, rfl, rfl⟩, (H174.sep.sub (List.nil_sublist _)).addNil 75 2⟩) | (rw [Note.readBatch_at hfs (k := k) (by omega) (Note.part_not (X := []) ⟨fun h => absurd h (by assumption), fun _ => by rw [show (((Note.whole s).1.drop 3).getD k []) = [] by first | assumption | exact Decidable.not_not.1 (by assumption)]; rfl⟩ (.inr (by assumption)))]; exact ⟨_, _, rfl, ⟨none, 0, rfl, rfl⟩, (H174.sep.sub (List.nil_sublist _)).addNil 75 2⟩) | (rw [Note.readBatch_at hfs (k := k) (by omega) (Note.part_not (X := []) ⟨fun _ => rfl, fun h => absurd (show (((Note.whole s).1.drop 3).getD k []) = [2] by first | assumption | exact Decidable.not_not.1 (by assumption)) h⟩ (.inl (by assumption)))]; exact ⟨_, _, rfl, ⟨none, 0, rfl, rfl⟩, (H174.sep.sub (List.nil_sublist _)).addNil 75 2⟩) | (rw [Note.readBatch_at hfs (k := k) (by omega) (Note.part_not (X := []) ⟨fun _ => rfl, fun h => absurd (show (((Note.whole s).1.drop 3).getD k []) = [2] by first | assumption | exact Decidable.not_not.1 (by assumption)) h⟩ (.inr (by assumption)))]; exact ⟨_, _, rfl, ⟨none, 0, rfl, rfl⟩, (H174.sep.sub (List.nil_sublist _)).addNil 75 2⟩) | (rw [Note.readBatch_bad (Note.fields_some (by assumption) hfi) (by rintro ⟨h1, h2⟩; omega)]; exact ⟨_, _, rfl, ⟨none, 0, rfl, rfl⟩, (H174.sep.sub (List.nil_sublist _)).addNil 75 2⟩) | (rw [Note.readBatch_bad hfs (by rw [Note.nums3]; simp only [decide_eq_true_eq]; omega)]; exact ⟨_, _, rfl, ⟨none, 0, rfl, rfl⟩, (H174.sep.sub (List.nil_sublist _)).addNil 75 2⟩) | (rw [Note.readBatch_ok hfs (by rw [Note.nums3]; exact decide_eq_true (by omega)) (by omega) (k := k) (by omega) hps]; exact ⟨_, _, rfl, ⟨_, _, rfl, rfl⟩, H174.sep.sub (by first | exact S0 | exact S1 | repeat (first | exact S1 | exact S0 | apply S2 | apply S3))⟩)
                      · skip
                        try simp only [decide_eq_true_eq, decide_eq_false_iff_not, Bool.not_eq_true', Bool.not_eq_false', Bool.and_eq_true, Bool.not_eq_true, Bool.not_eq_false] at hc171
                        refine wp_skip ?_
                        refine then_n ?_
                        refine reg ?_
                        refine plain (y_fieldB rfl z_field42_3 rfl (by first | (simp only [Nat.zero_add, Nat.add_zero, Nat.reduceAdd]; rfl) | rfl)) rfl rfl rfl H170 ?_
                        clear H170; intro a175 H175
                        refine plain (y_loadB rfl z_agg40 rfl (by repeat (first | exact Mh | apply Mt)) q_ix_c4_3) rfl rfl rfl H175 ?_
                        clear H175; intro a176 H176
                        refine plain (y_loadAB rfl z_agg75 z_size75 rfl (by repeat (first | exact Mh | apply Mt)) q_ld_c2_0_2 q_len_c2) rfl rfl rfl H176 ?_
                        clear H176; intro a177 H177
                        refine st_buildSlice rfl Tryd.underlying40 z_size75 z_zero75 rfl rfl rfl (lay_agg (agg_cells _) rfl (by simp)) rfl rfl rfl H177 ?_
                        clear H177; intro b178 a178 wx178 H178
                        refine st_append rfl z_slice40 z_notint40 rfl rfl (fun _ => (by repeat (first | exact Uh | apply Ut))) (fun w hs => Src.slice ((rd_blkA (by repeat (first | exact Mh | apply Mt))) w hs) rfl (by simp [Value.oneCell'])) (by unfold maxLen at *; first | omega | (simp only [List.length_cons, List.length_nil, List.length_append, List.length_map]; omega)) (by omega) rfl rfl rfl H178 ?_
                        clear H178; intro v179 a179 wx179 hnil179 H179
                        obtain ⟨Ar179, cr179, hvr179, hRr179, hmr179⟩ := row_shape (v := v179) H179.sep (by repeat (first | exact Mh | apply Mt))
                        subst hvr179
                        refine plain (y_fieldB rfl z_field42_3 rfl (by first | (simp only [Nat.zero_add, Nat.add_zero, Nat.reduceAdd]; rfl) | rfl)) rfl rfl rfl H179 ?_
                        clear H179; intro a180 H180
                        refine st_store1N rfl z_size40 rfl rfl rfl (by repeat (first | exact Uh | apply Ut)) q_len_c4 q_set_c4_3 (by decide) rfl rfl H180 ?_
                        clear H180; intro wx181 H181
                        refine fin ?_
                        refine inb_n ?_
                        refine then_n ?_
                        refine reg ?_
                        refine plain (y_move rfl rfl) rfl rfl rfl H181 ?_
                        clear H181; intro a182 H182
                        refine plain (y_add rfl rfl rfl (by first | exact w64 (by omega) (by omega) | rfl)) rfl rfl rfl H182 ?_
                        clear H182; intro a183 H183
                        refine plain (y_assign rfl rfl) rfl rfl rfl H183 ?_
                        clear H183; intro a184 H184
                        refine fin ?_
                        refine then_n ?_
                        refine ⟨(k + 1, ps ++ [⟨decide ((((Note.whole s).1.drop 3).getD k []) = [2]), []⟩], (.slice Ar179 _ cr179)), by dsimp only; omega, ⟨by dsimp only; omega, by dsimp only; rw [List.length_append, List.length_singleton]; omega, ?_⟩, (H184.drop (by first | exact S0 | exact S1 | repeat (first | exact S1 | exact S0 | apply S2 | apply S3))).weak ⟨rfl, rfl, rfl, fi rfl (by dsimp only; omega), trivial⟩ (ir2 (by simp) (by rw [Note.pc_append, Note.pc_one]; rfl) rfl)⟩
                        exact Note.parts_step (by omega) hps (Note.part_same ⟨fun h => absurd h (by assumption), fun _ => by rw [show (((Note.whole s).1.drop 3).getD k []) = [] by first | assumption | exact Decidable.not_not.1 (by assumption)]; rfl⟩ (by assumption) (Decidable.not_not.1 (by assumption)))
            · first
              | fail
              | skip
                clear H78; intro H185
                try simp only [decide_eq_true_eq, decide_eq_false_iff_not, Bool.not_eq_true', Bool.not_eq_false', Bool.and_eq_true, Bool.not_eq_true, Bool.not_eq_false] at hg79
                refine skip rfl rfl rfl H185 ?_
                clear H185; intro a186 H186
                refine skip rfl rfl rfl H186 ?_
                clear H186; intro a187 H187
                refine skip rfl rfl rfl H187 ?_
                clear H187; intro a188 H188
                refine skip rfl rfl rfl H188 ?_
                clear H188; intro a189 H189
                refine skip rfl rfl rfl H189 ?_
                clear H189; intro a190 H190
                refine plain (y_pick_f rfl rfl rfl) rfl rfl rfl H190 ?_
                clear H190; intro a191 H191
                refine fin ?_
                refine then_n ?_
                refine cnd_f H191 rfl ?_
                refine wp_skip ?_
                refine then_n ?_
                refine wp_seq ?_
                refine reg ?_
                refine plain (y_loadAB rfl z_agg75 z_size75 rfl (by repeat (first | exact Mh | apply Mt)) q_ld_c2_0_2 q_len_c2) rfl rfl rfl H191 ?_
                clear H191; intro a193 H193
                refine st_callg rfl z_call48 rfl rfl rfl rfl H193 (rpart ⟨decide ((((Note.whole s).1.drop 3).getD k []) = [2]), _⟩ (by first | (simp only [List.length_nil]; omega) | (simp only [List.length_drop]; omega)) _) ?_
                clear H193; intro a194 wx194 H194
                refine plain (y_move rfl rfl) rfl rfl rfl H194 ?_
                clear H194; intro a195 H195
                refine plain (y_extract rfl rfl rfl) rfl rfl rfl H195 ?_
                clear H195; intro a196 H196
                refine plain (y_extract rfl rfl rfl) rfl rfl rfl H196 ?_
                clear H196; intro a197 H197
                refine plain (y_assign rfl rfl) rfl rfl rfl H197 ?_
                clear H197; intro a198 H198
                refine plain (y_assign rfl rfl) rfl rfl rfl H198 ?_
                clear H198; intro a199 H199
                refine fin ?_
                refine then_n ?_
                refine wp_seq ?_
                refine wp_seq ?_
                refine reg ?_
                refine plain (y_move rfl rfl) rfl rfl rfl H199 ?_
                clear H199; intro a200 H200
                refine plain ((by first | exact y_not_d rfl rfl | exact y_not rfl rfl)) rfl rfl rfl H200 ?_
                clear H200; intro a201 H201
                refine plain (y_move rfl rfl) rfl rfl rfl H201 ?_
                clear H201; intro a202 H202
                refine Sx.part (d := 80) H202 rfl (fun hg203 => ?_) (fun hg203 => ?_)
                · first
                  | fail
                  | skip
                    clear H202; intro H204
                    try simp only [decide_eq_true_eq, decide_eq_false_iff_not, Bool.not_eq_true', Bool.not_eq_false', Bool.and_eq_true, Bool.not_eq_true, Bool.not_eq_false] at hg203
                    refine skip rfl rfl rfl H204 ?_
                    clear H204; intro a205 H205
                    refine skip rfl rfl rfl H205 ?_
                    clear H205; intro a206 H206
                    refine skip rfl rfl rfl H206 ?_
                    clear H206; intro a207 H207
                    refine skip rfl rfl rfl H207 ?_
                    clear H207; intro a208 H208
                    refine skip rfl rfl rfl H208 ?_
                    clear H208; intro a209 H209
                    refine skip rfl rfl rfl H209 ?_
                    clear H209; intro a210 H210
                    refine plain (y_pick_t rfl rfl rfl) rfl rfl rfl H210 ?_
                    clear H210; intro a211 H211
                    refine fin ?_
                    refine then_n ?_
                    refine cnd_t H211 rfl ?_
                    refine wp_seq ?_
                    refine reg ?_
                    refine plain (y_build rfl z_zeroN42 z_places42 rfl lay_n) rfl rfl rfl H211 ?_
                    clear H211; intro a213 H213
                    refine st_storeN rfl z_size42 rfl rfl (agg_cells _) (by repeat (first | exact Uh | apply Ut)) (q_one_c4 rfl rfl rfl rfl) q_len_c4 q_len_c4 q_spl_c4_0_c4 (by decide) rfl rfl H213 ?_
                    clear H213; intro wx214 H214
                    refine plain (y_assign rfl rfl) rfl rfl rfl H214 ?_
                    clear H214; intro a215 H215
                    refine fin ?_
                    refine then_n ?_
                    refine wp_ret ?_
                    refine then_r ?_
                    refine inb_r ?_
                    refine then_r ?_
                    refine then_r ?_
                    refine inb_r ?_
                    refine then_r ?_
                    -- return 7
                    refine retct rfl H215 rfl z_agg42 z_size42 (by repeat (first | exact Mh | apply Mt)) q_len_c4 rfl ?_
                    first | (rw [Note.readBatch_none (by first | exact Note.fields_none2 hfi | exact Note.fields_none1 (by assumption))]; exact ⟨_, _, rfl, ⟨none, 0, rfl, rfl⟩, (H215.sep.sub (List.nil_sublist _)).addNil 75 2⟩) | (rw [Note.readBatch_at hfs (k := k) (by omega) (Note.part_not (X := (((Note.whole s).1.drop 3).getD k []).drop 1) ⟨fun h => absurd h (by assumption), fun _ => rfl⟩ (.inl (by assumption)))]; exact ⟨_, _, rfl, ⟨none, 0, rfl, rfl⟩, (H215.sep.sub (List.nil_sublist _)).addNil 75 2⟩) | (rw [Note.readBatch_at hfs (k := k) (by omega) (Note.part_not (X := (((Note.whole s).1.drop 3).getD k []).drop 1) ⟨fun h => absurd h (by assumption), fun _ => rfl⟩ (.inr (by assumption)))]; exact ⟨_, _, rfl, ⟨none, 0, rfl, rfl⟩, (H215.sep.sub (List.nil_sublist _)).addNil 75 2⟩) | (rw [Note.readBatch_at hfs (k := k) (by omega) (Note.part_not (X := []) ⟨fun h => absurd h (by assumption), fun _ => by rw [show (((Note.whole s).1.drop 3).getD k []) = [] by first | assumption | exact Decidable.not_not.1 (by assumption)]; rfl⟩ (.inl (by assumption)))]; exact ⟨_, _, rfl, ⟨none, 0, rfl, rfl⟩, (H215.sep.sub (List.nil_sublist _)).addNil 75 2⟩) | (rw [Note.readBatch_at hfs (k := k) (by omega) (Note.part_not (X := []) ⟨fun h => absurd h (by assumption), fun _ => by rw [show (((Note.whole s).1.drop 3).getD k []) = [] by first | assumption | exact Decidable.not_not.1 (by assumption)]; rfl⟩ (.inr (by assumption)))]; exact ⟨_, _, rfl, ⟨none, 0, rfl, rfl⟩, (H215.sep.sub (List.nil_sublist _)).addNil 75 2⟩) | (rw [Note.readBatch_at hfs (k := k) (by omega) (Note.part_not (X := []) ⟨fun _ => rfl, fun h => absurd (show (((Note.whole s).1.drop 3).getD k []) = [2] by first | assumption | exact Decidable.not_not.1 (by assumption)) h⟩ (.inl (by assumption)))]; exact ⟨_, _, rfl, ⟨none, 0, rfl, rfl⟩, (H215.sep.sub (List.nil_sublist _)).addNil 75 2⟩) | (rw [Note.readBatch_at hfs (k := k) (by omega) (Note.part_not (X := []) ⟨fun _ => rfl, fun h => absurd (show (((Note.whole s).1.drop 3).getD k []) = [2] by first | assumption | exact Decidable.not_not.1 (by assumption)) h⟩ (.inr (by assumption)))]; exact ⟨_, _, rfl, ⟨none, 0, rfl, rfl⟩, (H215.sep.sub (List.nil_sublist _)).addNil 75 2⟩) | (rw [Note.readBatch_bad (Note.fields_some (by assumption) hfi) (by rintro ⟨h1, h2⟩; omega)]; exact ⟨_, _, rfl, ⟨none, 0, rfl, rfl⟩, (H215.sep.sub (List.nil_sublist _)).addNil 75 2⟩) | (rw [Note.readBatch_bad hfs (by rw [Note.nums3]; simp only [decide_eq_true_eq]; omega)]; exact ⟨_, _, rfl, ⟨none, 0, rfl, rfl⟩, (H215.sep.sub (List.nil_sublist _)).addNil 75 2⟩) | (rw [Note.readBatch_ok hfs (by rw [Note.nums3]; exact decide_eq_true (by omega)) (by omega) (k := k) (by omega) hps]; exact ⟨_, _, rfl, ⟨_, _, rfl, rfl⟩, H215.sep.sub (by first | exact S0 | exact S1 | repeat (first | exact S1 | exact S0 | apply S2 | apply S3))⟩)
                · first
                  | fail
                  | skip
                    clear H202; intro H216
                    try simp only [decide_eq_true_eq, decide_eq_false_iff_not, Bool.not_eq_true', Bool.not_eq_false', Bool.and_eq_true, Bool.not_eq_true, Bool.not_eq_false] at hg203
                    refine plain (y_move rfl rfl) rfl rfl rfl H216 ?_
                    clear H216; intro a217 H217
                    refine plain (y_move rfl rfl) rfl rfl rfl H217 ?_
                    clear H217; intro a218 H218
                    refine plain (y_move rfl rfl) rfl rfl rfl H218 ?_
                    clear H218; intro a219 H219
                    refine plain (y_ixR rfl Tryd.underlying49 z_size9 rfl rfl (by omega) (by omega) (rd_row (by repeat (first | exact Mh | apply Mt))) (by rw [List.length_map]; first | omega | (simp; done))) rfl rfl rfl H219 ?_
                    clear H219; intro a220 H220
                    refine plain (y_loadR rfl z_agg9 rfl (rd_row (by repeat (first | exact Mh | apply Mt))) (show _ = some (str (((Note.whole s).1.drop 3).getD k [])) by rw [show ((3 + k : Nat) : Int).toNat * 1 = 3 + k by omega]; exact Note.rest_at 3 k (by omega))) rfl rfl rfl H220 ?_
                    clear H220; intro a221 H221
                    refine plain (y_sneq rfl rfl rfl) rfl rfl rfl H221 ?_
                    clear H221; intro a222 H222
                    refine plain (y_pick_f rfl rfl rfl) rfl rfl rfl H222 ?_
                    clear H222; intro a223 H223
                    refine fin ?_
                    refine then_n ?_
                    refine cnd H223 rfl (fun hc224 => ?_) (fun hc224 => ?_) -- cond 11
                    · skip
                      try simp only [decide_eq_true_eq, decide_eq_false_iff_not, Bool.not_eq_true', Bool.not_eq_false', Bool.and_eq_true, Bool.not_eq_true, Bool.not_eq_false] at hc224
                      refine wp_seq ?_
                      refine reg ?_
                      refine plain (y_build rfl z_zeroN42 z_places42 rfl lay_n) rfl rfl rfl H223 ?_
                      clear H223; intro a225 H225
                      refine st_storeN rfl z_size42 rfl rfl (agg_cells _) (by repeat (first | exact Uh | apply Ut)) (q_one_c4 rfl rfl rfl rfl) q_len_c4 q_len_c4 q_spl_c4_0_c4 (by decide) rfl rfl H225 ?_
                      clear H225; intro wx226 H226
                      refine plain (y_assign rfl rfl) rfl rfl rfl H226 ?_
                      clear H226; intro a227 H227
                      refine fin ?_
                      refine then_n ?_
                      refine wp_ret ?_
                      refine then_r ?_
                      refine inb_r ?_
                      refine then_r ?_
                      refine then_r ?_
                      refine inb_r ?_
                      refine then_r ?_
                      -- return 8
                      refine retct rfl H227 rfl z_agg42 z_size42 (by repeat (first | exact Mh | apply Mt)) q_len_c4 rfl ?_
                      first | (rw [Note.readBatch_none (by first | exact Note.fields_none2 hfi | exact Note.fields_none1 (by assumption))]; exact ⟨_, _, rfl, ⟨none, 0, rfl, rfl⟩, (H227.sep.sub (List.nil_sublist _)).addNil 75 2⟩) | (rw [Note.readBatch_at hfs (k := k) (by omega) (Note.part_not (X := (((Note.whole s).1.drop 3).getD k []).drop 1) ⟨fun h => absurd h (by assumption), fun _ => rfl⟩ (.inl (by assumption)))]; exact ⟨_, _, rfl, ⟨none, 0, rfl, rfl⟩, (H227.sep.sub (List.nil_sublist _)).addNil 75 2⟩) | (rw [Note.readBatch_at hfs (k := k) (by omega) (Note.part_not (X := (((Note.whole s).1.drop 3).getD k []).drop 1) ⟨fun h => absurd h (by assumption), fun _ => rfl⟩ (.inr (by assumption)))]; exact ⟨_, _, rfl, ⟨none, 0, rfl, rfl⟩, (H227.sep.sub (List.nil_sublist _)).addNil 75 2⟩) | (rw [Note.readBatch_at hfs (k := k) (by omega) (Note.part_not (X := []) ⟨fun h => absurd h (by assumption), fun _ => by rw [show (((Note.whole s).1.drop 3).getD k []) = [] by first | assumption | exact Decidable.not_not.1 (by assumption)]; rfl⟩ (.inl (by assumption)))]; exact ⟨_, _, rfl, ⟨none, 0, rfl, rfl⟩, (H227.sep.sub (List.nil_sublist _)).addNil 75 2⟩) | (rw [Note.readBatch_at hfs (k := k) (by omega) (Note.part_not (X := []) ⟨fun h => absurd h (by assumption), fun _ => by rw [show (((Note.whole s).1.drop 3).getD k []) = [] by first | assumption | exact Decidable.not_not.1 (by assumption)]; rfl⟩ (.inr (by assumption)))]; exact ⟨_, _, rfl, ⟨none, 0, rfl, rfl⟩, (H227.sep.sub (List.nil_sublist _)).addNil 75 2⟩) | (rw [Note.readBatch_at hfs (k := k) (by omega) (Note.part_not (X := []) ⟨fun _ => rfl, fun h => absurd (show (((Note.whole s).1.drop 3).getD k []) = [2] by first | assumption | exact Decidable.not_not.1 (by assumption)) h⟩ (.inl (by assumption)))]; exact ⟨_, _, rfl, ⟨none, 0, rfl, rfl⟩, (H227.sep.sub (List.nil_sublist _)).addNil 75 2⟩) | (rw [Note.readBatch_at hfs (k := k) (by omega) (Note.part_not (X := []) ⟨fun _ => rfl, fun h => absurd (show (((Note.whole s).1.drop 3).getD k []) = [2] by first | assumption | exact Decidable.not_not.1 (by assumption)) h⟩ (.inr (by assumption)))]; exact ⟨_, _, rfl, ⟨none, 0, rfl, rfl⟩, (H227.sep.sub (List.nil_sublist _)).addNil 75 2⟩) | (rw [Note.readBatch_bad (Note.fields_some (by assumption) hfi) (by rintro ⟨h1, h2⟩; omega)]; exact ⟨_, _, rfl, ⟨none, 0, rfl, rfl⟩, (H227.sep.sub (List.nil_sublist _)).addNil 75 2⟩) | (rw [Note.readBatch_bad hfs (by rw [Note.nums3]; simp only [decide_eq_true_eq]; omega)]; exact ⟨_, _, rfl, ⟨none, 0, rfl, rfl⟩, (H227.sep.sub (List.nil_sublist _)).addNil 75 2⟩) | (rw [Note.readBatch_ok hfs (by rw [Note.nums3]; exact decide_eq_true (by omega)) (by omega) (k := k) (by omega) hps]; exact ⟨_, _, rfl, ⟨_, _, rfl, rfl⟩, H227.sep.sub (by first | exact S0 | exact S1 | repeat (first | exact S1 | exact S0 | apply S2 | apply S3))⟩)
                    · skip
                      try simp only [decide_eq_true_eq, decide_eq_false_iff_not, Bool.not_eq_true', Bool.not_eq_false', Bool.and_eq_true, Bool.not_eq_true, Bool.not_eq_false] at hc224
                      refine wp_skip ?_
                      refine then_n ?_
                      refine reg ?_
                      refine plain (y_fieldB rfl z_field42_3 rfl (by first | (simp only [Nat.zero_add, Nat.add_zero, Nat.reduceAdd]; rfl) | rfl)) rfl rfl rfl H223 ?_
                      clear H223; intro a228 H228
                      refine plain (y_loadB rfl z_agg40 rfl (by repeat (first | exact Mh | apply Mt)) q_ix_c4_3) rfl rfl rfl H228 ?_
                      clear H228; intro a229 H229
                      refine plain (y_loadAB rfl z_agg75 z_size75 rfl (by repeat (first | exact Mh | apply Mt)) q_ld_c2_0_2 q_len_c2) rfl rfl rfl H229 ?_
                      clear H229; intro a230 H230
                      refine st_buildSlice rfl Tryd.underlying40 z_size75 z_zero75 rfl rfl rfl (lay_agg (agg_cells _) rfl (by simp)) rfl rfl rfl H230 ?_
                      clear H230; intro b231 a231 wx231 H231
                      refine st_append rfl z_slice40 z_notint40 rfl rfl (fun _ => (by repeat (first | exact Uh | apply Ut))) (fun w hs => Src.slice ((rd_blkA (by repeat (first | exact Mh | apply Mt))) w hs) rfl (by simp [Value.oneCell'])) (by unfold maxLen at *; first | omega | (simp only [List.length_cons, List.length_nil, List.length_append, List.length_map]; omega)) (by omega) rfl rfl rfl H231 ?_
                      clear H231; intro v232 a232 wx232 hnil232 H232
                      obtain ⟨Ar232, cr232, hvr232, hRr232, hmr232⟩ := row_shape (v := v232) H232.sep (by repeat (first | exact Mh | apply Mt))
                      subst hvr232
                      refine plain (y_fieldB rfl z_field42_3 rfl (by first | (simp only [Nat.zero_add, Nat.add_zero, Nat.reduceAdd]; rfl) | rfl)) rfl rfl rfl H232 ?_
                      clear H232; intro a233 H233
                      refine st_store1N rfl z_size40 rfl rfl rfl (by repeat (first | exact Uh | apply Ut)) q_len_c4 q_set_c4_3 (by decide) rfl rfl H233 ?_
                      clear H233; intro wx234 H234
                      refine fin ?_
                      refine inb_n ?_
                      refine then_n ?_
                      refine reg ?_
                      refine plain (y_move rfl rfl) rfl rfl rfl H234 ?_
                      clear H234; intro a235 H235
                      refine plain (y_add rfl rfl rfl (by first | exact w64 (by omega) (by omega) | rfl)) rfl rfl rfl H235 ?_
                      clear H235; intro a236 H236
                      refine plain (y_assign rfl rfl) rfl rfl rfl H236 ?_
                      clear H236; intro a237 H237
                      refine fin ?_
                      refine then_n ?_
                      refine ⟨(k + 1, ps ++ [⟨decide ((((Note.whole s).1.drop 3).getD k []) = [2]), []⟩], (.slice Ar232 _ cr232)), by dsimp only; omega, ⟨by dsimp only; omega, by dsimp only; rw [List.length_append, List.length_singleton]; omega, ?_⟩, (H237.drop (by first | exact S0 | exact S1 | repeat (first | exact S1 | exact S0 | apply S2 | apply S3))).weak ⟨rfl, rfl, rfl, fi rfl (by dsimp only; omega), trivial⟩ (ir2 (by simp) (by rw [Note.pc_append, Note.pc_one]; rfl) rfl)⟩
                      exact Note.parts_step (by omega) hps (Note.part_same ⟨fun _ => rfl, fun h => absurd (show (((Note.whole s).1.drop 3).getD k []) = [2] by first | assumption | exact Decidable.not_not.1 (by assumption)) h⟩ (by assumption) (Decidable.not_not.1 (by assumption)))
          · skip
            try simp only [decide_eq_true_eq, decide_eq_false_iff_not, Bool.not_eq_true', Bool.not_eq_false', Bool.and_eq_true, Bool.not_eq_true, Bool.not_eq_false] at hc66
            refine wp_exit ?_
            refine then_x ?_
            refine then_x ?_
            refine inb_hit ?_
            refine then_n ?_
            refine wp_seq ?_
            refine wp_seq ?_
            refine reg ?_
            refine plain (y_fieldB rfl z_field42_0 rfl (by first | (simp only [Nat.zero_add, Nat.add_zero, Nat.reduceAdd]; rfl) | rfl)) rfl rfl rfl H65 ?_
            clear H65; intro a238 H238
            refine plain (y_loadB rfl z_agg3 rfl (by repeat (first | exact Mh | apply Mt)) q_ix_c4_0) rfl rfl rfl H238 ?_
            clear H238; intro a239 H239
            refine st_callg rfl z_call45 rfl rfl rfl rfl H239 (rwithin _ _ _) ?_
            clear H239; intro a240 wx240 H240
            refine plain ((by first | exact y_not_d rfl rfl | exact y_not rfl rfl)) rfl rfl rfl H240 ?_
            clear H240; intro a241 H241
            refine plain (y_move rfl rfl) rfl rfl rfl H241 ?_
            clear H241; intro a242 H242
            refine Sx.part (d := 99) H242 rfl (fun hg243 => ?_) (fun hg243 => ?_)
            · first
              | fail
              | skip
                clear H242; intro H244
                try simp only [decide_eq_true_eq, decide_eq_false_iff_not, Bool.not_eq_true', Bool.not_eq_false', Bool.and_eq_true, Bool.not_eq_true, Bool.not_eq_false] at hg243
                refine skip rfl rfl rfl H244 ?_
                clear H244; intro a245 H245
                refine skip rfl rfl rfl H245 ?_
                clear H245; intro a246 H246
                refine skip rfl rfl rfl H246 ?_
                clear H246; intro a247 H247
                refine skip rfl rfl rfl H247 ?_
                clear H247; intro a248 H248
                refine plain (y_pick_t rfl rfl rfl) rfl rfl rfl H248 ?_
                clear H248; intro a249 H249
                refine plain (y_move rfl rfl) rfl rfl rfl H249 ?_
                clear H249; intro a250 H250
                refine skip rfl rfl rfl H250 ?_
                clear H250; intro a251 H251
                refine skip rfl rfl rfl H251 ?_
                clear H251; intro a252 H252
                refine skip rfl rfl rfl H252 ?_
                clear H252; intro a253 H253
                refine skip rfl rfl rfl H253 ?_
                clear H253; intro a254 H254
                refine plain (y_pick_t rfl rfl rfl) rfl rfl rfl H254 ?_
                clear H254; intro a255 H255
                refine fin ?_
                refine then_n ?_
                refine cnd_t H255 rfl ?_
                refine wp_seq ?_
                refine reg ?_
                refine plain (y_build rfl z_zeroN42 z_places42 rfl lay_n) rfl rfl rfl H255 ?_
                clear H255; intro a257 H257
                refine st_storeN rfl z_size42 rfl rfl (agg_cells _) (by repeat (first | exact Uh | apply Ut)) (q_one_c4 rfl rfl rfl rfl) q_len_c4 q_len_c4 q_spl_c4_0_c4 (by decide) rfl rfl H257 ?_
                clear H257; intro wx258 H258
                refine plain (y_assign rfl rfl) rfl rfl rfl H258 ?_
                clear H258; intro a259 H259
                refine fin ?_
                refine then_n ?_
                refine wp_ret ?_
                refine then_r ?_
                -- return 9
                refine retct rfl H259 rfl z_agg42 z_size42 (by repeat (first | exact Mh | apply Mt)) q_len_c4 rfl ?_
                first | (rw [Note.readBatch_none (by first | exact Note.fields_none2 hfi | exact Note.fields_none1 (by assumption))]; exact ⟨_, _, rfl, ⟨none, 0, rfl, rfl⟩, (H259.sep.sub (List.nil_sublist _)).addNil 75 2⟩) | (rw [Note.readBatch_at hfs (k := k) (by omega) (Note.part_not (X := (((Note.whole s).1.drop 3).getD k []).drop 1) ⟨fun h => absurd h (by assumption), fun _ => rfl⟩ (.inl (by assumption)))]; exact ⟨_, _, rfl, ⟨none, 0, rfl, rfl⟩, (H259.sep.sub (List.nil_sublist _)).addNil 75 2⟩) | (rw [Note.readBatch_at hfs (k := k) (by omega) (Note.part_not (X := (((Note.whole s).1.drop 3).getD k []).drop 1) ⟨fun h => absurd h (by assumption), fun _ => rfl⟩ (.inr (by assumption)))]; exact ⟨_, _, rfl, ⟨none, 0, rfl, rfl⟩, (H259.sep.sub (List.nil_sublist _)).addNil 75 2⟩) | (rw [Note.readBatch_at hfs (k := k) (by omega) (Note.part_not (X := []) ⟨fun h => absurd h (by assumption), fun _ => by rw [show (((Note.whole s).1.drop 3).getD k []) = [] by first | assumption | exact Decidable.not_not.1 (by assumption)]; rfl⟩ (.inl (by assumption)))]; exact ⟨_, _, rfl, ⟨none, 0, rfl, rfl⟩, (H259.sep.sub (List.nil_sublist _)).addNil 75 2⟩) | (rw [Note.readBatch_at hfs (k := k) (by omega) (Note.part_not (X := []) ⟨fun h => absurd h (by assumption), fun _ => by rw [show (((Note.whole s).1.drop 3).getD k []) = [] by first | assumption | exact Decidable.not_not.1 (by assumption)]; rfl⟩ (.inr (by assumption)))]; exact ⟨_, _, rfl, ⟨none, 0, rfl, rfl⟩, (H259.sep.sub (List.nil_sublist _)).addNil 75 2⟩) | (rw [Note.readBatch_at hfs (k := k) (by omega) (Note.part_not (X := []) ⟨fun _ => rfl, fun h => absurd (show (((Note.whole s).1.drop 3).getD k []) = [2] by first | assumption | exact Decidable.not_not.1 (by assumption)) h⟩ (.inl (by assumption)))]; exact ⟨_, _, rfl, ⟨none, 0, rfl, rfl⟩, (H259.sep.sub (List.nil_sublist _)).addNil 75 2⟩) | (rw [Note.readBatch_at hfs (k := k) (by omega) (Note.part_not (X := []) ⟨fun _ => rfl, fun h => absurd (show (((Note.whole s).1.drop 3).getD k []) = [2] by first | assumption | exact Decidable.not_not.1 (by assumption)) h⟩ (.inr (by assumption)))]; exact ⟨_, _, rfl, ⟨none, 0, rfl, rfl⟩, (H259.sep.sub (List.nil_sublist _)).addNil 75 2⟩) | (rw [Note.readBatch_bad (Note.fields_some (by assumption) hfi) (by rintro ⟨h1, h2⟩; omega)]; exact ⟨_, _, rfl, ⟨none, 0, rfl, rfl⟩, (H259.sep.sub (List.nil_sublist _)).addNil 75 2⟩) | (rw [Note.readBatch_bad hfs (by rw [Note.nums3]; simp only [decide_eq_true_eq]; omega)]; exact ⟨_, _, rfl, ⟨none, 0, rfl, rfl⟩, (H259.sep.sub (List.nil_sublist _)).addNil 75 2⟩) | (rw [Note.readBatch_ok hfs (by rw [Note.nums3]; exact decide_eq_true (by omega)) (by omega) (k := k) (by omega) hps]; exact ⟨_, _, rfl, ⟨_, _, rfl, rfl⟩, H259.sep.sub (by first | exact S0 | exact S1 | repeat (first | exact S1 | exact S0 | apply S2 | apply S3))⟩)
            · first
              | fail
              | skip
                clear H242; intro H260
                try simp only [decide_eq_true_eq, decide_eq_false_iff_not, Bool.not_eq_true', Bool.not_eq_false', Bool.and_eq_true, Bool.not_eq_true, Bool.not_eq_false] at hg243
                refine plain (y_fieldB rfl z_field42_1 rfl (by first | (simp only [Nat.zero_add, Nat.add_zero, Nat.reduceAdd]; rfl) | rfl)) rfl rfl rfl H260 ?_
                clear H260; intro a261 H261
                refine plain (y_loadB rfl z_agg3 rfl (by repeat (first | exact Mh | apply Mt)) q_ix_c4_1) rfl rfl rfl H261 ?_
                clear H261; intro a262 H262
                refine st_callg rfl z_call45 rfl rfl rfl rfl H262 (rwithin _ _ _) ?_
                clear H262; intro a263 wx263 H263
                refine plain ((by first | exact y_not_d rfl rfl | exact y_not rfl rfl)) rfl rfl rfl H263 ?_
                clear H263; intro a264 H264
                refine plain (y_pick_f rfl rfl rfl) rfl rfl rfl H264 ?_
                clear H264; intro a265 H265
                refine plain (y_move rfl rfl) rfl rfl rfl H265 ?_
                clear H265; intro a266 H266
                refine Sx.part (d := 105) H266 rfl (fun hg267 => ?_) (fun hg267 => ?_)
                · first
                  | fail
                  | skip
                    clear H266; intro H268
                    try simp only [decide_eq_true_eq, decide_eq_false_iff_not, Bool.not_eq_true', Bool.not_eq_false', Bool.and_eq_true, Bool.not_eq_true, Bool.not_eq_false] at hg267
                    refine skip rfl rfl rfl H268 ?_
                    clear H268; intro a269 H269
                    refine skip rfl rfl rfl H269 ?_
                    clear H269; intro a270 H270
                    refine skip rfl rfl rfl H270 ?_
                    clear H270; intro a271 H271
                    refine skip rfl rfl rfl H271 ?_
                    clear H271; intro a272 H272
                    refine plain (y_pick_t rfl rfl rfl) rfl rfl rfl H272 ?_
                    clear H272; intro a273 H273
                    refine fin ?_
                    refine then_n ?_
                    refine cnd_t H273 rfl ?_
                    refine wp_seq ?_
                    refine reg ?_
                    refine plain (y_build rfl z_zeroN42 z_places42 rfl lay_n) rfl rfl rfl H273 ?_
                    clear H273; intro a275 H275
                    refine st_storeN rfl z_size42 rfl rfl (agg_cells _) (by repeat (first | exact Uh | apply Ut)) (q_one_c4 rfl rfl rfl rfl) q_len_c4 q_len_c4 q_spl_c4_0_c4 (by decide) rfl rfl H275 ?_
                    clear H275; intro wx276 H276
                    refine plain (y_assign rfl rfl) rfl rfl rfl H276 ?_
                    clear H276; intro a277 H277
                    refine fin ?_
                    refine then_n ?_
                    refine wp_ret ?_
                    refine then_r ?_
                    -- return 10
                    refine retct rfl H277 rfl z_agg42 z_size42 (by repeat (first | exact Mh | apply Mt)) q_len_c4 rfl ?_
                    first | (rw [Note.readBatch_none (by first | exact Note.fields_none2 hfi | exact Note.fields_none1 (by assumption))]; exact ⟨_, _, rfl, ⟨none, 0, rfl, rfl⟩, (H277.sep.sub (List.nil_sublist _)).addNil 75 2⟩) | (rw [Note.readBatch_at hfs (k := k) (by omega) (Note.part_not (X := (((Note.whole s).1.drop 3).getD k []).drop 1) ⟨fun h => absurd h (by assumption), fun _ => rfl⟩ (.inl (by assumption)))]; exact ⟨_, _, rfl, ⟨none, 0, rfl, rfl⟩, (H277.sep.sub (List.nil_sublist _)).addNil 75 2⟩) | (rw [Note.readBatch_at hfs (k := k) (by omega) (Note.part_not (X := (((Note.whole s).1.drop 3).getD k []).drop 1) ⟨fun h => absurd h (by assumption), fun _ => rfl⟩ (.inr (by assumption)))]; exact ⟨_, _, rfl, ⟨none, 0, rfl, rfl⟩, (H277.sep.sub (List.nil_sublist _)).addNil 75 2⟩) | (rw [Note.readBatch_at hfs (k := k) (by omega) (Note.part_not (X := []) ⟨fun h => absurd h (by assumption), fun _ => by rw [show (((Note.whole s).1.drop 3).getD k []) = [] by first | assumption | exact Decidable.not_not.1 (by assumption)]; rfl⟩ (.inl (by assumption)))]; exact ⟨_, _, rfl, ⟨none, 0, rfl, rfl⟩, (H277.sep.sub (List.nil_sublist _)).addNil 75 2⟩) | (rw [Note.readBatch_at hfs (k := k) (by omega) (Note.part_not (X := []) ⟨fun h => absurd h (by assumption), fun _ => by rw [show (((Note.whole s).1.drop 3).getD k []) = [] by first | assumption | exact Decidable.not_not.1 (by assumption)]; rfl⟩ (.inr (by assumption)))]; exact ⟨_, _, rfl, ⟨none, 0, rfl, rfl⟩, (H277.sep.sub (List.nil_sublist _)).addNil 75 2⟩) | (rw [Note.readBatch_at hfs (k := k) (by omega) (Note.part_not (X := []) ⟨fun _ => rfl, fun h => absurd (show (((Note.whole s).1.drop 3).getD k []) = [2] by first | assumption | exact Decidable.not_not.1 (by assumption)) h⟩ (.inl (by assumption)))]; exact ⟨_, _, rfl, ⟨none, 0, rfl, rfl⟩, (H277.sep.sub (List.nil_sublist _)).addNil 75 2⟩) | (rw [Note.readBatch_at hfs (k := k) (by omega) (Note.part_not (X := []) ⟨fun _ => rfl, fun h => absurd (show (((Note.whole s).1.drop 3).getD k []) = [2] by first | assumption | exact Decidable.not_not.1 (by assumption)) h⟩ (.inr (by assumption)))]; exact ⟨_, _, rfl, ⟨none, 0, rfl, rfl⟩, (H277.sep.sub (List.nil_sublist _)).addNil 75 2⟩) | (rw [Note.readBatch_bad (Note.fields_some (by assumption) hfi) (by rintro ⟨h1, h2⟩; omega)]; exact ⟨_, _, rfl, ⟨none, 0, rfl, rfl⟩, (H277.sep.sub (List.nil_sublist _)).addNil 75 2⟩) | (rw [Note.readBatch_bad hfs (by rw [Note.nums3]; simp only [decide_eq_true_eq]; omega)]; exact ⟨_, _, rfl, ⟨none, 0, rfl, rfl⟩, (H277.sep.sub (List.nil_sublist _)).addNil 75 2⟩) | (rw [Note.readBatch_ok hfs (by rw [Note.nums3]; exact decide_eq_true (by omega)) (by omega) (k := k) (by omega) hps]; exact ⟨_, _, rfl, ⟨_, _, rfl, rfl⟩, H277.sep.sub (by first | exact S0 | exact S1 | repeat (first | exact S1 | exact S0 | apply S2 | apply S3))⟩)
                · first
                  | fail
                  | skip
                    clear H266; intro H278
                    try simp only [decide_eq_true_eq, decide_eq_false_iff_not, Bool.not_eq_true', Bool.not_eq_false', Bool.and_eq_true, Bool.not_eq_true, Bool.not_eq_false] at hg267
                    refine plain (y_fieldB rfl z_field42_2 rfl (by first | (simp only [Nat.zero_add, Nat.add_zero, Nat.reduceAdd]; rfl) | rfl)) rfl rfl rfl H278 ?_
                    clear H278; intro a279 H279
                    refine plain (y_loadB rfl z_agg3 rfl (by repeat (first | exact Mh | apply Mt)) q_ix_c4_2) rfl rfl rfl H279 ?_
                    clear H279; intro a280 H280
                    refine st_callg rfl z_call45 rfl rfl rfl rfl H280 (rwithin _ _ _) ?_
                    clear H280; intro a281 wx281 H281
                    refine plain ((by first | exact y_not_d rfl rfl | exact y_not rfl rfl)) rfl rfl rfl H281 ?_
                    clear H281; intro a282 H282
                    refine plain (y_pick_f rfl rfl rfl) rfl rfl rfl H282 ?_
                    clear H282; intro a283 H283
                    refine fin ?_
                    refine then_n ?_
                    refine cnd H283 rfl (fun hc284 => ?_) (fun hc284 => ?_) -- cond 14
                    · skip
                      try simp only [decide_eq_true_eq, decide_eq_false_iff_not, Bool.not_eq_true', Bool.not_eq_false', Bool.and_eq_true, Bool.not_eq_true, Bool.not_eq_false] at hc284
                      refine wp_seq ?_
                      refine reg ?_
                      refine plain (y_build rfl z_zeroN42 z_places42 rfl lay_n) rfl rfl rfl H283 ?_
                      clear H283; intro a285 H285
                      refine st_storeN rfl z_size42 rfl rfl (agg_cells _) (by repeat (first | exact Uh | apply Ut)) (q_one_c4 rfl rfl rfl rfl) q_len_c4 q_len_c4 q_spl_c4_0_c4 (by decide) rfl rfl H285 ?_
                      clear H285; intro wx286 H286
                      refine plain (y_assign rfl rfl) rfl rfl rfl H286 ?_
                      clear H286; intro a287 H287
                      refine fin ?_
                      refine then_n ?_
                      refine wp_ret ?_
                      refine then_r ?_
                      -- return 11
                      refine retct rfl H287 rfl z_agg42 z_size42 (by repeat (first | exact Mh | apply Mt)) q_len_c4 rfl ?_
                      first | (rw [Note.readBatch_none (by first | exact Note.fields_none2 hfi | exact Note.fields_none1 (by assumption))]; exact ⟨_, _, rfl, ⟨none, 0, rfl, rfl⟩, (H287.sep.sub (List.nil_sublist _)).addNil 75 2⟩) | (rw [Note.readBatch_at hfs (k := k) (by omega) (Note.part_not (X := (((Note.whole s).1.drop 3).getD k []).drop 1) ⟨fun h => absurd h (by assumption), fun _ => rfl⟩ (.inl (by assumption)))]; exact ⟨_, _, rfl, ⟨none, 0, rfl, rfl⟩, (H287.sep.sub (List.nil_sublist _)).addNil 75 2⟩) | (rw [Note.readBatch_at hfs (k := k) (by omega) (Note.part_not (X := (((Note.whole s).1.drop 3).getD k []).drop 1) ⟨fun h => absurd h (by assumption), fun _ => rfl⟩ (.inr (by assumption)))]; exact ⟨_, _, rfl, ⟨none, 0, rfl, rfl⟩, (H287.sep.sub (List.nil_sublist _)).addNil 75 2⟩) | (rw [Note.readBatch_at hfs (k := k) (by omega) (Note.part_not (X := []) ⟨fun h => absurd h (by assumption), fun _ => by rw [show (((Note.whole s).1.drop 3).getD k []) = [] by first | assumption | exact Decidable.not_not.1 (by assumption)]; rfl⟩ (.inl (by assumption)))]; exact ⟨_, _, rfl, ⟨none, 0, rfl, rfl⟩, (H287.sep.sub (List.nil_sublist _)).addNil 75 2⟩) | (rw [Note.readBatch_at hfs (k := k) (by omega) (Note.part_not (X := []) ⟨fun h => absurd h (by assumption), fun _ => by rw [show (((Note.whole s).1.drop 3).getD k []) = [] by first | assumption | exact Decidable.not_not.1 (by assumption)]; rfl⟩ (.inr (by assumption)))]; exact ⟨_, _, rfl, ⟨none, 0, rfl, rfl⟩, (H287.sep.sub (List.nil_sublist _)).addNil 75 2⟩) | (rw [Note.readBatch_at hfs (k := k) (by omega) (Note.part_not (X := []) ⟨fun _ => rfl, fun h => absurd (show (((Note.whole s).1.drop 3).getD k []) = [2] by first | assumption | exact Decidable.not_not.1 (by assumption)) h⟩ (.inl (by assumption)))]; exact ⟨_, _, rfl, ⟨none, 0, rfl, rfl⟩, (H287.sep.sub (List.nil_sublist _)).addNil 75 2⟩) | (rw [Note.readBatch_at hfs (k := k) (by omega) (Note.part_not (X := []) ⟨fun _ => rfl, fun h => absurd (show (((Note.whole s).1.drop 3).getD k []) = [2] by first | assumption | exact Decidable.not_not.1 (by assumption)) h⟩ (.inr (by assumption)))]; exact ⟨_, _, rfl, ⟨none, 0, rfl, rfl⟩, (H287.sep.sub (List.nil_sublist _)).addNil 75 2⟩) | (rw [Note.readBatch_bad (Note.fields_some (by assumption) hfi) (by rintro ⟨h1, h2⟩; omega)]; exact ⟨_, _, rfl, ⟨none, 0, rfl, rfl⟩, (H287.sep.sub (List.nil_sublist _)).addNil 75 2⟩) | (rw [Note.readBatch_bad hfs (by rw [Note.nums3]; simp only [decide_eq_true_eq]; omega)]; exact ⟨_, _, rfl, ⟨none, 0, rfl, rfl⟩, (H287.sep.sub (List.nil_sublist _)).addNil 75 2⟩) | (rw [Note.readBatch_ok hfs (by rw [Note.nums3]; exact decide_eq_true (by omega)) (by omega) (k := k) (by omega) hps]; exact ⟨_, _, rfl, ⟨_, _, rfl, rfl⟩, H287.sep.sub (by first | exact S0 | exact S1 | repeat (first | exact S1 | exact S0 | apply S2 | apply S3))⟩)
                    · skip
                      try simp only [decide_eq_true_eq, decide_eq_false_iff_not, Bool.not_eq_true', Bool.not_eq_false', Bool.and_eq_true, Bool.not_eq_true, Bool.not_eq_false] at hc284
                      refine wp_skip ?_
                      refine then_n ?_
                      refine wp_seq ?_
                      refine reg ?_
                      refine plain (y_loadAB rfl z_agg42 z_size42 rfl (by repeat (first | exact Mh | apply Mt)) q_ld_c4_0_4 q_len_c4) rfl rfl rfl H283 ?_
                      clear H283; intro a288 H288
                      refine st_storeN rfl z_size42 rfl rfl (agg_cells _) (by repeat (first | exact Uh | apply Ut)) (q_one_c4 rfl rfl rfl rfl) q_len_c4 q_len_c4 q_spl_c4_0_c4 (by decide) rfl rfl H288 ?_
                      clear H288; intro wx289 H289
                      refine plain (y_assign rfl rfl) rfl rfl rfl H289 ?_
                      clear H289; intro a290 H290
                      refine fin ?_
                      refine then_n ?_
                      refine wp_ret ?_
                      -- return 12
                      refine retct rfl H290 rfl z_agg42 z_size42 (by repeat (first | exact Mh | apply Mt)) q_len_c4 rfl ?_
                      first | (rw [Note.readBatch_none (by first | exact Note.fields_none2 hfi | exact Note.fields_none1 (by assumption))]; exact ⟨_, _, rfl, ⟨none, 0, rfl, rfl⟩, (H290.sep.sub (List.nil_sublist _)).addNil 75 2⟩) | (rw [Note.readBatch_at hfs (k := k) (by omega) (Note.part_not (X := (((Note.whole s).1.drop 3).getD k []).drop 1) ⟨fun h => absurd h (by assumption), fun _ => rfl⟩ (.inl (by assumption)))]; exact ⟨_, _, rfl, ⟨none, 0, rfl, rfl⟩, (H290.sep.sub (List.nil_sublist _)).addNil 75 2⟩) | (rw [Note.readBatch_at hfs (k := k) (by omega) (Note.part_not (X := (((Note.whole s).1.drop 3).getD k []).drop 1) ⟨fun h => absurd h (by assumption), fun _ => rfl⟩ (.inr (by assumption)))]; exact ⟨_, _, rfl, ⟨none, 0, rfl, rfl⟩, (H290.sep.sub (List.nil_sublist _)).addNil 75 2⟩) | (rw [Note.readBatch_at hfs (k := k) (by omega) (Note.part_not (X := []) ⟨fun h => absurd h (by assumption), fun _ => by rw [show (((Note.whole s).1.drop 3).getD k []) = [] by first | assumption | exact Decidable.not_not.1 (by assumption)]; rfl⟩ (.inl (by assumption)))]; exact ⟨_, _, rfl, ⟨none, 0, rfl, rfl⟩, (H290.sep.sub (List.nil_sublist _)).addNil 75 2⟩) | (rw [Note.readBatch_at hfs (k := k) (by omega) (Note.part_not (X := []) ⟨fun h => absurd h (by assumption), fun _ => by rw [show (((Note.whole s).1.drop 3).getD k []) = [] by first | assumption | exact Decidable.not_not.1 (by assumption)]; rfl⟩ (.inr (by assumption)))]; exact ⟨_, _, rfl, ⟨none, 0, rfl, rfl⟩, (H290.sep.sub (List.nil_sublist _)).addNil 75 2⟩) | (rw [Note.readBatch_at hfs (k := k) (by omega) (Note.part_not (X := []) ⟨fun _ => rfl, fun h => absurd (show (((Note.whole s).1.drop 3).getD k []) = [2] by first | assumption | exact Decidable.not_not.1 (by assumption)) h⟩ (.inl (by assumption)))]; exact ⟨_, _, rfl, ⟨none, 0, rfl, rfl⟩, (H290.sep.sub (List.nil_sublist _)).addNil 75 2⟩) | (rw [Note.readBatch_at hfs (k := k) (by omega) (Note.part_not (X := []) ⟨fun _ => rfl, fun h => absurd (show (((Note.whole s).1.drop 3).getD k []) = [2] by first | assumption | exact Decidable.not_not.1 (by assumption)) h⟩ (.inr (by assumption)))]; exact ⟨_, _, rfl, ⟨none, 0, rfl, rfl⟩, (H290.sep.sub (List.nil_sublist _)).addNil 75 2⟩) | (rw [Note.readBatch_bad (Note.fields_some (by assumption) hfi) (by rintro ⟨h1, h2⟩; omega)]; exact ⟨_, _, rfl, ⟨none, 0, rfl, rfl⟩, (H290.sep.sub (List.nil_sublist _)).addNil 75 2⟩) | (rw [Note.readBatch_bad hfs (by rw [Note.nums3]; simp only [decide_eq_true_eq]; omega)]; exact ⟨_, _, rfl, ⟨none, 0, rfl, rfl⟩, (H290.sep.sub (List.nil_sublist _)).addNil 75 2⟩) | (rw [Note.readBatch_ok hfs (by rw [Note.nums3]; exact decide_eq_true (by omega)) (by omega) (k := k) (by omega) hps]; exact ⟨_, _, rfl, ⟨_, _, rfl, rfl⟩, H290.sep.sub (by first | exact S0 | exact S1 | repeat (first | exact S1 | exact S0 | apply S2 | apply S3))⟩)
  · skip
    simp only [List.nil_append] at H11
    refine plain (y_move rfl rfl) rfl rfl rfl H11 ?_
    clear H11; intro a291 H291
    refine plain (y_extract rfl rfl rfl) rfl rfl rfl H291 ?_
    clear H291; intro a292 H292
    refine plain (y_extract rfl rfl rfl) rfl rfl rfl H292 ?_
    clear H292; intro a293 H293
    refine plain (y_assign rfl rfl) rfl rfl rfl H293 ?_
    clear H293; intro a294 H294
    refine plain (y_assign rfl rfl) rfl rfl rfl H294 ?_
    clear H294; intro a295 H295
    refine fin ?_
    refine then_n ?_
    refine wp_seq ?_
    refine wp_seq ?_
    refine reg ?_
    refine plain (y_move rfl rfl) rfl rfl rfl H295 ?_
    clear H295; intro a296 H296
    refine plain (y_neq rfl rfl rfl) rfl rfl rfl H296 ?_
    clear H296; intro a297 H297
    refine plain (y_move rfl rfl) rfl rfl rfl H297 ?_
    clear H297; intro a298 H298
    refine Sx.part (d := 25) H298 rfl (fun hg299 => ?_) (fun hg299 => ?_)
    · first
      | fail
      | skip
        clear H298; intro H300
        try simp only [decide_eq_true_eq, decide_eq_false_iff_not, Bool.not_eq_true', Bool.not_eq_false', Bool.and_eq_true, Bool.not_eq_true, Bool.not_eq_false] at hg299
        refine skip rfl rfl rfl H300 ?_
        clear H300; intro a301 H301
        refine skip rfl rfl rfl H301 ?_
        clear H301; intro a302 H302
        refine plain (y_pick_t rfl rfl rfl) rfl rfl rfl H302 ?_
        clear H302; intro a303 H303
        refine plain (y_move rfl rfl) rfl rfl rfl H303 ?_
        clear H303; intro a304 H304
        refine skip rfl rfl rfl H304 ?_
        clear H304; intro a305 H305
        refine skip rfl rfl rfl H305 ?_
        clear H305; intro a306 H306
        refine skip rfl rfl rfl H306 ?_
        clear H306; intro a307 H307
        refine plain (y_pick_t rfl rfl rfl) rfl rfl rfl H307 ?_
        clear H307; intro a308 H308
        refine fin ?_
        refine then_n ?_
        refine cnd_t H308 rfl ?_
        refine wp_seq ?_
        refine reg ?_
        refine plain (y_build rfl z_zeroN42 z_places42 rfl lay_n) rfl rfl rfl H308 ?_
        clear H308; intro a310 H310
        refine st_storeN rfl z_size42 rfl rfl (agg_cells _) (by repeat (first | exact Uh | apply Ut)) (q_one_c4 rfl rfl rfl rfl) q_len_c4 q_len_c4 q_spl_c4_0_c4 (by decide) rfl rfl H310 ?_
        clear H310; intro wx311 H311
        refine plain (y_assign rfl rfl) rfl rfl rfl H311 ?_
        clear H311; intro a312 H312
        refine fin ?_
        refine then_n ?_
        refine wp_ret ?_
        refine then_r ?_
        -- return 13
        refine retct rfl H312 rfl z_agg42 z_size42 (by repeat (first | exact Mh | apply Mt)) q_len_c4 rfl ?_
        first | (rw [Note.readBatch_none (by first | exact Note.fields_none2 hfi | exact Note.fields_none1 (by assumption))]; exact ⟨_, _, rfl, ⟨none, 0, rfl, rfl⟩, (H312.sep.sub (List.nil_sublist _)).addNil 75 2⟩) | (rw [Note.readBatch_at hfs (k := k) (by omega) (Note.part_not (X := (((Note.whole s).1.drop 3).getD k []).drop 1) ⟨fun h => absurd h (by assumption), fun _ => rfl⟩ (.inl (by assumption)))]; exact ⟨_, _, rfl, ⟨none, 0, rfl, rfl⟩, (H312.sep.sub (List.nil_sublist _)).addNil 75 2⟩) | (rw [Note.readBatch_at hfs (k := k) (by omega) (Note.part_not (X := (((Note.whole s).1.drop 3).getD k []).drop 1) ⟨fun h => absurd h (by assumption), fun _ => rfl⟩ (.inr (by assumption)))]; exact ⟨_, _, rfl, ⟨none, 0, rfl, rfl⟩, (H312.sep.sub (List.nil_sublist _)).addNil 75 2⟩) | (rw [Note.readBatch_at hfs (k := k) (by omega) (Note.part_not (X := []) ⟨fun h => absurd h (by assumption), fun _ => by rw [show (((Note.whole s).1.drop 3).getD k []) = [] by first | assumption | exact Decidable.not_not.1 (by assumption)]; rfl⟩ (.inl (by assumption)))]; exact ⟨_, _, rfl, ⟨none, 0, rfl, rfl⟩, (H312.sep.sub (List.nil_sublist _)).addNil 75 2⟩) | (rw [Note.readBatch_at hfs (k := k) (by omega) (Note.part_not (X := []) ⟨fun h => absurd h (by assumption), fun _ => by rw [show (((Note.whole s).1.drop 3).getD k []) = [] by first | assumption | exact Decidable.not_not.1 (by assumption)]; rfl⟩ (.inr (by assumption)))]; exact ⟨_, _, rfl, ⟨none, 0, rfl, rfl⟩, (H312.sep.sub (List.nil_sublist _)).addNil 75 2⟩) | (rw [Note.readBatch_at hfs (k := k) (by omega) (Note.part_not (X := []) ⟨fun _ => rfl, fun h => absurd (show (((Note.whole s).1.drop 3).getD k []) = [2] by first | assumption | exact Decidable.not_not.1 (by assumption)) h⟩ (.inl (by assumption)))]; exact ⟨_, _, rfl, ⟨none, 0, rfl, rfl⟩, (H312.sep.sub (List.nil_sublist _)).addNil 75 2⟩) | (rw [Note.readBatch_at hfs (k := k) (by omega) (Note.part_not (X := []) ⟨fun _ => rfl, fun h => absurd (show (((Note.whole s).1.drop 3).getD k []) = [2] by first | assumption | exact Decidable.not_not.1 (by assumption)) h⟩ (.inr (by assumption)))]; exact ⟨_, _, rfl, ⟨none, 0, rfl, rfl⟩, (H312.sep.sub (List.nil_sublist _)).addNil 75 2⟩) | (rw [Note.readBatch_bad (Note.fields_some (by assumption) hfi) (by rintro ⟨h1, h2⟩; omega)]; exact ⟨_, _, rfl, ⟨none, 0, rfl, rfl⟩, (H312.sep.sub (List.nil_sublist _)).addNil 75 2⟩) | (rw [Note.readBatch_bad hfs (by rw [Note.nums3]; simp only [decide_eq_true_eq]; omega)]; exact ⟨_, _, rfl, ⟨none, 0, rfl, rfl⟩, (H312.sep.sub (List.nil_sublist _)).addNil 75 2⟩) | (rw [Note.readBatch_ok hfs (by rw [Note.nums3]; exact decide_eq_true (by omega)) (by omega) (k := k) (by omega) hps]; exact ⟨_, _, rfl, ⟨_, _, rfl, rfl⟩, H312.sep.sub (by first | exact S0 | exact S1 | repeat (first | exact S1 | exact S0 | apply S2 | apply S3))⟩)
    · first
      | fail
      | skip
        clear H298; intro H313
        try simp only [decide_eq_true_eq, decide_eq_false_iff_not, Bool.not_eq_true', Bool.not_eq_false', Bool.and_eq_true, Bool.not_eq_true, Bool.not_eq_false] at hg299
        refine plain (y_move rfl rfl) rfl rfl rfl H313 ?_
        clear H313; intro a314 H314
        refine plain (y_not rfl rfl) rfl rfl rfl H314 ?_
        clear H314; intro a315 H315
        refine plain (y_pick_f rfl rfl rfl) rfl rfl rfl H315 ?_
        clear H315; intro a316 H316
        refine plain (y_move rfl rfl) rfl rfl rfl H316 ?_
        clear H316; intro a317 H317
        refine skip rfl rfl rfl H317 ?_
        clear H317; intro a318 H318
        refine skip rfl rfl rfl H318 ?_
        clear H318; intro a319 H319
        refine skip rfl rfl rfl H319 ?_
        clear H319; intro a320 H320
        refine plain (y_pick_t rfl rfl rfl) rfl rfl rfl H320 ?_
        clear H320; intro a321 H321
        refine fin ?_
        refine then_n ?_
        refine cnd_t H321 rfl ?_
        refine wp_seq ?_
        refine reg ?_
        refine plain (y_build rfl z_zeroN42 z_places42 rfl lay_n) rfl rfl rfl H321 ?_
        clear H321; intro a323 H323
        refine st_storeN rfl z_size42 rfl rfl (agg_cells _) (by repeat (first | exact Uh | apply Ut)) (q_one_c4 rfl rfl rfl rfl) q_len_c4 q_len_c4 q_spl_c4_0_c4 (by decide) rfl rfl H323 ?_
        clear H323; intro wx324 H324
        refine plain (y_assign rfl rfl) rfl rfl rfl H324 ?_
        clear H324; intro a325 H325
        refine fin ?_
        refine then_n ?_
        refine wp_ret ?_
        refine then_r ?_
        -- return 14
        refine retct rfl H325 rfl z_agg42 z_size42 (by repeat (first | exact Mh | apply Mt)) q_len_c4 rfl ?_
        first | (rw [Note.readBatch_none (by first | exact Note.fields_none2 hfi | exact Note.fields_none1 (by assumption))]; exact ⟨_, _, rfl, ⟨none, 0, rfl, rfl⟩, (H325.sep.sub (List.nil_sublist _)).addNil 75 2⟩) | (rw [Note.readBatch_at hfs (k := k) (by omega) (Note.part_not (X := (((Note.whole s).1.drop 3).getD k []).drop 1) ⟨fun h => absurd h (by assumption), fun _ => rfl⟩ (.inl (by assumption)))]; exact ⟨_, _, rfl, ⟨none, 0, rfl, rfl⟩, (H325.sep.sub (List.nil_sublist _)).addNil 75 2⟩) | (rw [Note.readBatch_at hfs (k := k) (by omega) (Note.part_not (X := (((Note.whole s).1.drop 3).getD k []).drop 1) ⟨fun h => absurd h (by assumption), fun _ => rfl⟩ (.inr (by assumption)))]; exact ⟨_, _, rfl, ⟨none, 0, rfl, rfl⟩, (H325.sep.sub (List.nil_sublist _)).addNil 75 2⟩) | (rw [Note.readBatch_at hfs (k := k) (by omega) (Note.part_not (X := []) ⟨fun h => absurd h (by assumption), fun _ => by rw [show (((Note.whole s).1.drop 3).getD k []) = [] by first | assumption | exact Decidable.not_not.1 (by assumption)]; rfl⟩ (.inl (by assumption)))]; exact ⟨_, _, rfl, ⟨none, 0, rfl, rfl⟩, (H325.sep.sub (List.nil_sublist _)).addNil 75 2⟩) | (rw [Note.readBatch_at hfs (k := k) (by omega) (Note.part_not (X := []) ⟨fun h => absurd h (by assumption), fun _ => by rw [show (((Note.whole s).1.drop 3).getD k []) = [] by first | assumption | exact Decidable.not_not.1 (by assumption)]; rfl⟩ (.inr (by assumption)))]; exact ⟨_, _, rfl, ⟨none, 0, rfl, rfl⟩, (H325.sep.sub (List.nil_sublist _)).addNil 75 2⟩) | (rw [Note.readBatch_at hfs (k := k) (by omega) (Note.part_not (X := []) ⟨fun _ => rfl, fun h => absurd (show (((Note.whole s).1.drop 3).getD k []) = [2] by first | assumption | exact Decidable.not_not.1 (by assumption)) h⟩ (.inl (by assumption)))]; exact ⟨_, _, rfl, ⟨none, 0, rfl, rfl⟩, (H325.sep.sub (List.nil_sublist _)).addNil 75 2⟩) | (rw [Note.readBatch_at hfs (k := k) (by omega) (Note.part_not (X := []) ⟨fun _ => rfl, fun h => absurd (show (((Note.whole s).1.drop 3).getD k []) = [2] by first | assumption | exact Decidable.not_not.1 (by assumption)) h⟩ (.inr (by assumption)))]; exact ⟨_, _, rfl, ⟨none, 0, rfl, rfl⟩, (H325.sep.sub (List.nil_sublist _)).addNil 75 2⟩) | (rw [Note.readBatch_bad (Note.fields_some (by assumption) hfi) (by rintro ⟨h1, h2⟩; omega)]; exact ⟨_, _, rfl, ⟨none, 0, rfl, rfl⟩, (H325.sep.sub (List.nil_sublist _)).addNil 75 2⟩) | (rw [Note.readBatch_bad hfs (by rw [Note.nums3]; simp only [decide_eq_true_eq]; omega)]; exact ⟨_, _, rfl, ⟨none, 0, rfl, rfl⟩, (H325.sep.sub (List.nil_sublist _)).addNil 75 2⟩) | (rw [Note.readBatch_ok hfs (by rw [Note.nums3]; exact decide_eq_true (by omega)) (by omega) (k := k) (by omega) hps]; exact ⟨_, _, rfl, ⟨_, _, rfl, rfl⟩, H325.sep.sub (by first | exact S0 | exact S1 | repeat (first | exact S1 | exact S0 | apply S2 | apply S3))⟩)
set_option maxRecDepth 100000 in
set_option maxHeartbeats 1000000 in
theorem rbatches (x y : Note.Batch) (A B : Option Addr) (c e : Nat) (hx : x.parts.length ≤ 9223372036854775807) (hy : y.parts.length ≤ 9223372036854775807) {w : World} (hA : Rd w A (Note.pc x.parts)) (hB : Rd w B (Note.pc y.parts)) : Calls Tryd.prog 33 #[.agg (Note.Batch.cells x A c).toArray, .agg (Note.Batch.cells y B e).toArray] w (Gives (.bool (decide (x = y))) [] w) := by
  have lz32 : (List.replicate 32 (0 : UInt8)).length = 32 := List.length_replicate
  refine enterL (args := [.agg (Note.Batch.cells x A c).toArray, .agg (Note.Batch.cells y B e).toArray]) Tryd.func33 rfl rfl (l := []) (Sep.refl _) ?_
  intro a0 H0
  refine wp_seq ?_
  refine reg ?_
  refine st_box rfl rfl (agg_cells _) rfl rfl rfl H0 ?_
  clear H0; intro b1 a1 wx1 H1
  refine st_box rfl rfl (agg_cells _) rfl rfl rfl H1 ?_
  clear H1; intro b2 a2 wx2 H2
  refine plain (y_assign rfl rfl) rfl rfl rfl H2 ?_
  clear H2; intro a3 H3
  refine fin ?_
  refine then_n ?_
  refine wp_seq ?_
  refine wp_seq ?_
  refine reg ?_
  refine plain (y_fieldB rfl z_field42_0 rfl (by first | (simp only [Nat.zero_add, Nat.add_zero, Nat.reduceAdd]; rfl) | rfl)) rfl rfl rfl H3 ?_
  clear H3; intro a4 H4
  refine plain (y_loadB rfl z_agg3 rfl (by repeat (first | exact Mh | apply Mt)) q_ix_c4_0) rfl rfl rfl H4 ?_
  clear H4; intro a5 H5
  refine plain (y_fieldB rfl z_field42_0 rfl (by first | (simp only [Nat.zero_add, Nat.add_zero, Nat.reduceAdd]; rfl) | rfl)) rfl rfl rfl H5 ?_
  clear H5; intro a6 H6
  refine plain (y_loadB rfl z_agg3 rfl (by repeat (first | exact Mh | apply Mt)) q_ix_c4_0) rfl rfl rfl H6 ?_
  clear H6; intro a7 H7
  refine plain (y_neq rfl rfl rfl) rfl rfl rfl H7 ?_
  clear H7; intro a8 H8
  refine plain (y_move rfl rfl) rfl rfl rfl H8 ?_
  clear H8; intro a9 H9
  refine Sx.part (d := 11) H9 rfl (fun hg10 => ?_) (fun hg10 => ?_)
  · first
    | fail
    | skip
      clear H9; intro H11
      try simp only [decide_eq_true_eq, decide_eq_false_iff_not, Bool.not_eq_true', Bool.not_eq_false', Bool.and_eq_true, Bool.not_eq_true, Bool.not_eq_false] at hg10
      refine skip rfl rfl rfl H11 ?_
      clear H11; intro a12 H12
      refine skip rfl rfl rfl H12 ?_
      clear H12; intro a13 H13
      refine skip rfl rfl rfl H13 ?_
      clear H13; intro a14 H14
      refine skip rfl rfl rfl H14 ?_
      clear H14; intro a15 H15
      refine skip rfl rfl rfl H15 ?_
      clear H15; intro a16 H16
      refine plain (y_pick_t rfl rfl rfl) rfl rfl rfl H16 ?_
      clear H16; intro a17 H17
      refine plain (y_move rfl rfl) rfl rfl rfl H17 ?_
      clear H17; intro a18 H18
      refine skip rfl rfl rfl H18 ?_
      clear H18; intro a19 H19
      refine skip rfl rfl rfl H19 ?_
      clear H19; intro a20 H20
      refine skip rfl rfl rfl H20 ?_
      clear H20; intro a21 H21
      refine skip rfl rfl rfl H21 ?_
      clear H21; intro a22 H22
      refine skip rfl rfl rfl H22 ?_
      clear H22; intro a23 H23
      refine plain (y_pick_t rfl rfl rfl) rfl rfl rfl H23 ?_
      clear H23; intro a24 H24
      refine plain (y_move rfl rfl) rfl rfl rfl H24 ?_
      clear H24; intro a25 H25
      refine skip rfl rfl rfl H25 ?_
      clear H25; intro a26 H26
      refine skip rfl rfl rfl H26 ?_
      clear H26; intro a27 H27
      refine skip rfl rfl rfl H27 ?_
      clear H27; intro a28 H28
      refine skip rfl rfl rfl H28 ?_
      clear H28; intro a29 H29
      refine skip rfl rfl rfl H29 ?_
      clear H29; intro a30 H30
      refine skip rfl rfl rfl H30 ?_
      clear H30; intro a31 H31
      refine skip rfl rfl rfl H31 ?_
      clear H31; intro a32 H32
      refine plain (y_pick_t rfl rfl rfl) rfl rfl rfl H32 ?_
      clear H32; intro a33 H33
      refine fin ?_
      refine then_n ?_
      refine cnd_t H33 rfl ?_
      refine wp_seq ?_
      refine reg ?_
      refine plain (y_assign rfl rfl) rfl rfl rfl H33 ?_
      clear H33; intro a35 H35
      refine fin ?_
      refine then_n ?_
      refine wp_ret ?_
      refine then_r ?_
      -- return 1
      refine ret1 rfl H35 rfl ?_
      refine ⟨_, [], rfl, ⟨?_, rfl⟩, H35.sep.sub (List.nil_sublist _)⟩
      first | exact congrArg Value.bool (decide_eq_false (fun e => by subst e; omega)).symm | exact congrArg Value.bool (decide_eq_false (fun e => by subst e; exact absurd rfl (by assumption))).symm | exact congrArg Value.bool (decide_eq_true (Note.Batch.same (by omega) (by omega) (by omega) (Oct.eq_of_take hlen (by omega) hok.2))).symm
  · first
    | fail
    | skip
      clear H9; intro H36
      try simp only [decide_eq_true_eq, decide_eq_false_iff_not, Bool.not_eq_true', Bool.not_eq_false', Bool.and_eq_true, Bool.not_eq_true, Bool.not_eq_false] at hg10
      refine plain (y_fieldB rfl z_field42_1 rfl (by first | (simp only [Nat.zero_add, Nat.add_zero, Nat.reduceAdd]; rfl) | rfl)) rfl rfl rfl H36 ?_
      clear H36; intro a37 H37
      refine plain (y_loadB rfl z_agg3 rfl (by repeat (first | exact Mh | apply Mt)) q_ix_c4_1) rfl rfl rfl H37 ?_
      clear H37; intro a38 H38
      refine plain (y_fieldB rfl z_field42_1 rfl (by first | (simp only [Nat.zero_add, Nat.add_zero, Nat.reduceAdd]; rfl) | rfl)) rfl rfl rfl H38 ?_
      clear H38; intro a39 H39
      refine plain (y_loadB rfl z_agg3 rfl (by repeat (first | exact Mh | apply Mt)) q_ix_c4_1) rfl rfl rfl H39 ?_
      clear H39; intro a40 H40
      refine plain (y_neq rfl rfl rfl) rfl rfl rfl H40 ?_
      clear H40; intro a41 H41
      refine plain (y_pick_f rfl rfl rfl) rfl rfl rfl H41 ?_
      clear H41; intro a42 H42
      refine plain (y_move rfl rfl) rfl rfl rfl H42 ?_
      clear H42; intro a43 H43
      refine Sx.part (d := 18) H43 rfl (fun hg44 => ?_) (fun hg44 => ?_)
      · first
        | fail
        | skip
          clear H43; intro H45
          try simp only [decide_eq_true_eq, decide_eq_false_iff_not, Bool.not_eq_true', Bool.not_eq_false', Bool.and_eq_true, Bool.not_eq_true, Bool.not_eq_false] at hg44
          refine skip rfl rfl rfl H45 ?_
          clear H45; intro a46 H46
          refine skip rfl rfl rfl H46 ?_
          clear H46; intro a47 H47
          refine skip rfl rfl rfl H47 ?_
          clear H47; intro a48 H48
          refine skip rfl rfl rfl H48 ?_
          clear H48; intro a49 H49
          refine skip rfl rfl rfl H49 ?_
          clear H49; intro a50 H50
          refine plain (y_pick_t rfl rfl rfl) rfl rfl rfl H50 ?_
          clear H50; intro a51 H51
          refine plain (y_move rfl rfl) rfl rfl rfl H51 ?_
          clear H51; intro a52 H52
          refine skip rfl rfl rfl H52 ?_
          clear H52; intro a53 H53
          refine skip rfl rfl rfl H53 ?_
          clear H53; intro a54 H54
          refine skip rfl rfl rfl H54 ?_
          clear H54; intro a55 H55
          refine skip rfl rfl rfl H55 ?_
          clear H55; intro a56 H56
          refine skip rfl rfl rfl H56 ?_
          clear H56; intro a57 H57
          refine skip rfl rfl rfl H57 ?_
          clear H57; intro a58 H58
          refine skip rfl rfl rfl H58 ?_
          clear H58; intro a59 H59
          refine plain (y_pick_t rfl rfl rfl) rfl rfl rfl H59 ?_
          clear H59; intro a60 H60
          refine fin ?_
          refine then_n ?_
          refine cnd_t H60 rfl ?_
          refine wp_seq ?_
          refine reg ?_
          refine plain (y_assign rfl rfl) rfl rfl rfl H60 ?_
          clear H60; intro a62 H62
          refine fin ?_
          refine then_n ?_
          refine wp_ret ?_
          refine then_r ?_
          -- return 2
          refine ret1 rfl H62 rfl ?_
          refine ⟨_, [], rfl, ⟨?_, rfl⟩, H62.sep.sub (List.nil_sublist _)⟩
          first | exact congrArg Value.bool (decide_eq_false (fun e => by subst e; omega)).symm | exact congrArg Value.bool (decide_eq_false (fun e => by subst e; exact absurd rfl (by assumption))).symm | exact congrArg Value.bool (decide_eq_true (Note.Batch.same (by omega) (by omega) (by omega) (Oct.eq_of_take hlen (by omega) hok.2))).symm
      · first
        | fail
        | skip
          clear H43; intro H63
          try simp only [decide_eq_true_eq, decide_eq_false_iff_not, Bool.not_eq_true', Bool.not_eq_false', Bool.and_eq_true, Bool.not_eq_true, Bool.not_eq_false] at hg44
          refine plain (y_fieldB rfl z_field42_2 rfl (by first | (simp only [Nat.zero_add, Nat.add_zero, Nat.reduceAdd]; rfl) | rfl)) rfl rfl rfl H63 ?_
          clear H63; intro a64 H64
          refine plain (y_loadB rfl z_agg3 rfl (by repeat (first | exact Mh | apply Mt)) q_ix_c4_2) rfl rfl rfl H64 ?_
          clear H64; intro a65 H65
          refine plain (y_fieldB rfl z_field42_2 rfl (by first | (simp only [Nat.zero_add, Nat.add_zero, Nat.reduceAdd]; rfl) | rfl)) rfl rfl rfl H65 ?_
          clear H65; intro a66 H66
          refine plain (y_loadB rfl z_agg3 rfl (by repeat (first | exact Mh | apply Mt)) q_ix_c4_2) rfl rfl rfl H66 ?_
          clear H66; intro a67 H67
          refine plain (y_neq rfl rfl rfl) rfl rfl rfl H67 ?_
          clear H67; intro a68 H68
          refine plain (y_pick_f rfl rfl rfl) rfl rfl rfl H68 ?_
          clear H68; intro a69 H69
          refine plain (y_move rfl rfl) rfl rfl rfl H69 ?_
          clear H69; intro a70 H70
          refine Sx.part (d := 25) H70 rfl (fun hg71 => ?_) (fun hg71 => ?_)
          · first
            | fail
            | skip
              clear H70; intro H72
              try simp only [decide_eq_true_eq, decide_eq_false_iff_not, Bool.not_eq_true', Bool.not_eq_false', Bool.and_eq_true, Bool.not_eq_true, Bool.not_eq_false] at hg71
              refine skip rfl rfl rfl H72 ?_
              clear H72; intro a73 H73
              refine skip rfl rfl rfl H73 ?_
              clear H73; intro a74 H74
              refine skip rfl rfl rfl H74 ?_
              clear H74; intro a75 H75
              refine skip rfl rfl rfl H75 ?_
              clear H75; intro a76 H76
              refine skip rfl rfl rfl H76 ?_
              clear H76; intro a77 H77
              refine skip rfl rfl rfl H77 ?_
              clear H77; intro a78 H78
              refine skip rfl rfl rfl H78 ?_
              clear H78; intro a79 H79
              refine plain (y_pick_t rfl rfl rfl) rfl rfl rfl H79 ?_
              clear H79; intro a80 H80
              refine fin ?_
              refine then_n ?_
              refine cnd_t H80 rfl ?_
              refine wp_seq ?_
              refine reg ?_
              refine plain (y_assign rfl rfl) rfl rfl rfl H80 ?_
              clear H80; intro a82 H82
              refine fin ?_
              refine then_n ?_
              refine wp_ret ?_
              refine then_r ?_
              -- return 3
              refine ret1 rfl H82 rfl ?_
              refine ⟨_, [], rfl, ⟨?_, rfl⟩, H82.sep.sub (List.nil_sublist _)⟩
              first | exact congrArg Value.bool (decide_eq_false (fun e => by subst e; omega)).symm | exact congrArg Value.bool (decide_eq_false (fun e => by subst e; exact absurd rfl (by assumption))).symm | exact congrArg Value.bool (decide_eq_true (Note.Batch.same (by omega) (by omega) (by omega) (Oct.eq_of_take hlen (by omega) hok.2))).symm
          · first
            | fail
            | skip
              clear H70; intro H83
              try simp only [decide_eq_true_eq, decide_eq_false_iff_not, Bool.not_eq_true', Bool.not_eq_false', Bool.and_eq_true, Bool.not_eq_true, Bool.not_eq_false] at hg71
              refine plain (y_fieldB rfl z_field42_3 rfl (by first | (simp only [Nat.zero_add, Nat.add_zero, Nat.reduceAdd]; rfl) | rfl)) rfl rfl rfl H83 ?_
              clear H83; intro a84 H84
              refine plain (y_loadB rfl z_agg40 rfl (by repeat (first | exact Mh | apply Mt)) q_ix_c4_3) rfl rfl rfl H84 ?_
              clear H84; intro a85 H85
              refine plain (y_len rfl Tryd.underlying40 rfl) rfl rfl rfl H85 ?_
              clear H85; intro a86 H86
              refine plain (y_fieldB rfl z_field42_3 rfl (by first | (simp only [Nat.zero_add, Nat.add_zero, Nat.reduceAdd]; rfl) | rfl)) rfl rfl rfl H86 ?_
              clear H86; intro a87 H87
              refine plain (y_loadB rfl z_agg40 rfl (by repeat (first | exact Mh | apply Mt)) q_ix_c4_3) rfl rfl rfl H87 ?_
              clear H87; intro a88 H88
              refine plain (y_len rfl Tryd.underlying40 rfl) rfl rfl rfl H88 ?_
              clear H88; intro a89 H89
              refine plain (y_neq rfl rfl rfl) rfl rfl rfl H89 ?_
              clear H89; intro a90 H90
              refine plain (y_pick_f rfl rfl rfl) rfl rfl rfl H90 ?_
              clear H90; intro a91 H91
              refine fin ?_
              refine then_n ?_
              refine cnd H91 rfl (fun hc92 => ?_) (fun hc92 => ?_) -- cond 4
              · skip
                try simp only [decide_eq_true_eq, decide_eq_false_iff_not, Bool.not_eq_true', Bool.not_eq_false', Bool.and_eq_true, Bool.not_eq_true, Bool.not_eq_false] at hc92
                refine wp_seq ?_
                refine reg ?_
                refine plain (y_assign rfl rfl) rfl rfl rfl H91 ?_
                clear H91; intro a93 H93
                refine fin ?_
                refine then_n ?_
                refine wp_ret ?_
                refine then_r ?_
                -- return 4
                refine ret1 rfl H93 rfl ?_
                refine ⟨_, [], rfl, ⟨?_, rfl⟩, H93.sep.sub (List.nil_sublist _)⟩
                first | exact congrArg Value.bool (decide_eq_false (fun e => by subst e; omega)).symm | exact congrArg Value.bool (decide_eq_false (fun e => by subst e; exact absurd rfl (by assumption))).symm | exact congrArg Value.bool (decide_eq_true (Note.Batch.same (by omega) (by omega) (by omega) (Oct.eq_of_take hlen (by omega) hok.2))).symm
              · skip
                try simp only [decide_eq_true_eq, decide_eq_false_iff_not, Bool.not_eq_true', Bool.not_eq_false', Bool.and_eq_true, Bool.not_eq_true, Bool.not_eq_false] at hc92
                refine wp_skip ?_
                refine then_n ?_
                refine wp_seq ?_
                refine wp_seq ?_
                refine reg ?_
                refine plain (y_assign rfl rfl) rfl rfl rfl H91 ?_
                clear H91; intro a94 H94
                refine fin ?_
                refine then_n ?_
                refine wp_block ?_
                have hlen : x.parts.length = y.parts.length := by omega
                refine loop (ι := Nat) (fun k => [(2, .pointer (some ⟨b1, 0, none⟩)), (3, .pointer (some ⟨b2, 0, none⟩)), (5, .int .i64 (k : Int))]) (fun k => [It.blk b2 42 (Note.Batch.cells y B e), It.blk b1 42 (Note.Batch.cells x A c)]) (fun k => k ≤ x.parts.length ∧ x.parts.take k = y.parts.take k) (fun k => x.parts.length - k) (0) ⟨Nat.zero_le _, rfl⟩ (H94.weak ⟨rfl, rfl, rfl, trivial⟩ rfl) ?_
                clear H94; intro k a95 wx95 hok95 H95
                have hok := hok95
                refine wp_seq ?_
                refine wp_seq ?_
                refine reg ?_
                refine plain (y_move rfl rfl) rfl rfl rfl H95 ?_
                clear H95; intro a96 H96
                refine plain (y_fieldB rfl z_field42_3 rfl (by first | (simp only [Nat.zero_add, Nat.add_zero, Nat.reduceAdd]; rfl) | rfl)) rfl rfl rfl H96 ?_
                clear H96; intro a97 H97
                refine plain (y_loadB rfl z_agg40 rfl (by repeat (first | exact Mh | apply Mt)) q_ix_c4_3) rfl rfl rfl H97 ?_
                clear H97; intro a98 H98
                refine plain (y_len rfl Tryd.underlying40 rfl) rfl rfl rfl H98 ?_
                clear H98; intro a99 H99
                refine plain (y_lss rfl rfl rfl) rfl rfl rfl H99 ?_
                clear H99; intro a100 H100
                refine fin ?_
                refine then_n ?_
                refine cnd H100 rfl (fun hc101 => ?_) (fun hc101 => ?_) -- cond 5
                · skip
                  try simp only [decide_eq_true_eq, decide_eq_false_iff_not, Bool.not_eq_true', Bool.not_eq_false', Bool.and_eq_true, Bool.not_eq_true, Bool.not_eq_false] at hc101
                  refine wp_skip ?_
                  refine then_n ?_
                  refine wp_seq ?_
                  refine wp_block ?_
                  refine wp_seq ?_
                  refine qreg (by kernel_rfl) (by kernel_rfl) H100 ?_
                  have F102 := H100.fr
                  clear H100
                  refine qplain (y_fieldB rfl z_field42_3 rfl (by first | (simp only [Nat.zero_add, Nat.add_zero, Nat.reduceAdd]; rfl) | rfl)) rfl rfl rfl F102 ?_
                  clear F102; intro a103 H103
                  refine qplain (y_loadB rfl z_agg40 rfl (by repeat (first | exact Mh | apply Mt)) q_ix_c4_3) rfl rfl rfl H103 ?_
                  clear H103; intro a104 H104
                  refine qplain (y_move rfl rfl) rfl rfl rfl H104 ?_
                  clear H104; intro a105 H105
                  refine qplain (y_ixR rfl Tryd.underlying40 z_size75 rfl rfl (by omega) (by omega) (rd_old hA (by simp)) (by rw [Note.pc_len]; omega)) rfl rfl rfl H105 ?_
                  clear H105; intro a106 H106
                  refine qplain (y_loadAS rfl z_agg75 z_size75 rfl (rd_old hA (by simp)) (show _ = Note.Part.cells (x.parts.getD k ⟨false, []⟩) from Note.pc_take k (by omega)) rfl (by decide)) rfl rfl rfl H106 ?_
                  clear H106; intro a107 H107
                  refine qplain (y_fieldB rfl z_field42_3 rfl (by first | (simp only [Nat.zero_add, Nat.add_zero, Nat.reduceAdd]; rfl) | rfl)) rfl rfl rfl H107 ?_
                  clear H107; intro a108 H108
                  refine qplain (y_loadB rfl z_agg40 rfl (by repeat (first | exact Mh | apply Mt)) q_ix_c4_3) rfl rfl rfl H108 ?_
                  clear H108; intro a109 H109
                  refine qplain (y_move rfl rfl) rfl rfl rfl H109 ?_
                  clear H109; intro a110 H110
                  refine qplain (y_ixR rfl Tryd.underlying40 z_size75 rfl rfl (by omega) (by omega) (rd_old hB (by simp)) (by rw [Note.pc_len]; omega)) rfl rfl rfl H110 ?_
                  clear H110; intro a111 H111
                  refine qplain (y_loadAS rfl z_agg75 z_size75 rfl (rd_old hB (by simp)) (show _ = Note.Part.cells (y.parts.getD k ⟨false, []⟩) from Note.pc_take k (by omega)) rfl (by decide)) rfl rfl rfl H111 ?_
                  clear H111; intro a112 H112
                  refine qplain (y_tneq rfl (by kernel_rfl) rfl rfl (eqr_Part (x.parts.getD k ⟨false, []⟩) (y.parts.getD k ⟨false, []⟩))) rfl rfl rfl H112 ?_
                  clear H112; intro a113 H113
                  refine qfin H113 ?_
                  clear H113; intro wx114 H114
                  refine then_n ?_
                  refine cnd H114 rfl (fun hc115 => ?_) (fun hc115 => ?_) -- cond 6
                  · skip
                    try simp only [decide_eq_true_eq, decide_eq_false_iff_not, Bool.not_eq_true', Bool.not_eq_false', Bool.and_eq_true, Bool.not_eq_true, Bool.not_eq_false] at hc115
                    refine wp_seq ?_
                    refine reg ?_
                    refine plain (y_assign rfl rfl) rfl rfl rfl H114 ?_
                    clear H114; intro a116 H116
                    refine fin ?_
                    refine then_n ?_
                    refine wp_ret ?_
                    refine inb_r ?_
                    refine then_r ?_
                    refine then_r ?_
                    refine inb_r ?_
                    refine then_r ?_
                    -- return 5
                    refine ret1 rfl H116 rfl ?_
                    refine ⟨_, [], rfl, ⟨?_, rfl⟩, H116.sep.sub (List.nil_sublist _)⟩
                    first | exact congrArg Value.bool (decide_eq_false (fun e => by subst e; omega)).symm | exact congrArg Value.bool (decide_eq_false (fun e => by subst e; exact absurd rfl (by assumption))).symm | exact congrArg Value.bool (decide_eq_true (Note.Batch.same (by omega) (by omega) (by omega) (Oct.eq_of_take hlen (by omega) hok.2))).symm
                  · skip
                    try simp only [decide_eq_true_eq, decide_eq_false_iff_not, Bool.not_eq_true', Bool.not_eq_false', Bool.and_eq_true, Bool.not_eq_true, Bool.not_eq_false] at hc115
                    refine wp_skip ?_
                    refine inb_n ?_
                    refine then_n ?_
                    refine reg ?_
                    refine plain (y_move rfl rfl) rfl rfl rfl H114 ?_
                    clear H114; intro a117 H117
                    refine plain (y_add rfl rfl rfl (by first | exact w64 (by omega) (by omega) | rfl)) rfl rfl rfl H117 ?_
                    clear H117; intro a118 H118
                    refine plain (y_assign rfl rfl) rfl rfl rfl H118 ?_
                    clear H118; intro a119 H119
                    refine fin ?_
                    refine then_n ?_
                    refine ⟨k + 1, by omega, ⟨by omega, Oct.take_eq_succ ⟨false, []⟩ (by omega) (by omega) hok.2 (by first | assumption | exact Decidable.not_not.1 (by assumption))⟩, H119.weak ⟨rfl, rfl, fi rfl (by omega), trivial⟩ rfl⟩
                · skip
                  try simp only [decide_eq_true_eq, decide_eq_false_iff_not, Bool.not_eq_true', Bool.not_eq_false', Bool.and_eq_true, Bool.not_eq_true, Bool.not_eq_false] at hc101
                  refine wp_exit ?_
                  refine then_x ?_
                  refine then_x ?_
                  refine inb_hit ?_
                  refine then_n ?_
                  refine wp_seq ?_
                  refine reg ?_
                  refine plain (y_assign rfl rfl) rfl rfl rfl H100 ?_
                  clear H100; intro a120 H120
                  refine fin ?_
                  refine then_n ?_
                  refine wp_ret ?_
                  -- return 6
                  refine ret1 rfl H120 rfl ?_
                  refine ⟨_, [], rfl, ⟨?_, rfl⟩, H120.sep.sub (List.nil_sublist _)⟩
                  first | exact congrArg Value.bool (decide_eq_false (fun e => by subst e; omega)).symm | exact congrArg Value.bool (decide_eq_false (fun e => by subst e; exact absurd rfl (by assumption))).symm | exact congrArg Value.bool (decide_eq_true (Note.Batch.same (by omega) (by omega) (by omega) (Oct.eq_of_take hlen (by omega) hok.2))).symm

end Go.Proofs.YtnnhnnhdoipbaaaDoor.N_RRBatch

set_option linter.unusedVariables false
set_option linter.unusedSimpArgs false
namespace Go.Proofs.YtnnhnnhdoipbaaaDoor.N_Aw
open Go.Sx Go.RowKit Go.Proofs.YtnnhnnhdoipbaaaDoor.N_Block Go.Proofs.YtnnhnnhdoipbaaaDoor.N_Sum Go.Proofs.YtnnhnnhdoipbaaaDoor.N_Ref Go.Proofs.YtnnhnnhdoipbaaaDoor.N_RSum Go.Proofs.YtnnhnnhdoipbaaaDoor.N_Leaf Go.Proofs.YtnnhnnhdoipbaaaDoor.N_Num Go.Proofs.YtnnhnnhdoipbaaaDoor.N_Key Go.Proofs.YtnnhnnhdoipbaaaDoor.N_Ref Go.Proofs.YtnnhnnhdoipbaaaDoor.N_RSum Go.Proofs.YtnnhnnhdoipbaaaDoor.N_Tag Go.Proofs.YtnnhnnhdoipbaaaDoor.N_Read Go.Proofs.YtnnhnnhdoipbaaaDoor.N_Lay Go.Proofs.YtnnhnnhdoipbaaaDoor.N_Eq Go.Proofs.YtnnhnnhdoipbaaaDoor.N_Ref0 Go.Proofs.YtnnhnnhdoipbaaaDoor.N_Rec Go.Proofs.YtnnhnnhdoipbaaaDoor.N_RRec Go.Proofs.YtnnhnnhdoipbaaaDoor.N_Fields Go.Proofs.YtnnhnnhdoipbaaaDoor.N_RBid Go.Proofs.YtnnhnnhdoipbaaaDoor.N_Sign Go.Proofs.YtnnhnnhdoipbaaaDoor.N_Item Go.Proofs.YtnnhnnhdoipbaaaDoor.N_WBatch Go.Proofs.YtnnhnnhdoipbaaaDoor.N_RBatch Go.Proofs.YtnnhnnhdoipbaaaDoor.N_RefB Go.Proofs.YtnnhnnhdoipbaaaDoor.N_RefI Go.Proofs.YtnnhnnhdoipbaaaDoor.N_RefR Go.Proofs.YtnnhnnhdoipbaaaDoor.N_RWBatch Go.Proofs.YtnnhnnhdoipbaaaDoor.N_RRBatch

theorem z_zeroN25 : zeroL Tryd.prog 25 = some ((.int .i64 0 :: (.int .i64 0 :: (.int .i64 0 :: (.int .i64 0 :: (List.replicate 32 (0 : UInt8)).map u8))))) := by kernel_rfl
theorem z_places25 : placesB Tryd.prog 25 = some [(0, 1), (1, 1), (2, 1), (3, 1), (4, 32)] := by kernel_rfl
theorem q_len_c4b32 {a0 a1 a2 a3 : Value} {t4 : List UInt8} (h4 : t4.length = 32) : (a0 :: a1 :: a2 :: a3 :: t4.map u8).length = 36 := (len_c (n := 35) (len_c (n := 34) (len_c (n := 33) (len_c (n := 32) (len_e (k := 32) h4)))))
theorem q_spl_c4b32_0_c1 {a0 a1 a2 a3 : Value} {t4 : List UInt8} {b0 : Value} : spl (a0 :: a1 :: a2 :: a3 :: t4.map u8) 0 (b0 :: []) = b0 :: a1 :: a2 :: a3 :: t4.map u8 := spl_0
theorem q_spl_c4b32_1_c1 {a0 a1 a2 a3 : Value} {t4 : List UInt8} {b0 : Value} : spl (a0 :: a1 :: a2 :: a3 :: t4.map u8) 1 (b0 :: []) = a0 :: b0 :: a2 :: a3 :: t4.map u8 := (spl_c (o := 0) spl_0)
theorem q_spl_c4b32_2_c1 {a0 a1 a2 a3 : Value} {t4 : List UInt8} {b0 : Value} : spl (a0 :: a1 :: a2 :: a3 :: t4.map u8) 2 (b0 :: []) = a0 :: a1 :: b0 :: a3 :: t4.map u8 := (spl_c (o := 1) (spl_c (o := 0) spl_0))
theorem z_call12 : callB Tryd.prog 12 = true := by kernel_rfl
theorem z_size25 : sizeB Tryd.prog 25 = some 36 := by kernel_rfl
theorem q_one_c4b32 {a0 a1 a2 a3 : Value} {t4 : List UInt8} (o0 : a0.oneCell' = true) (o1 : a1.oneCell' = true) (o2 : a2.oneCell' = true) (o3 : a3.oneCell' = true) : (a0 :: a1 :: a2 :: a3 :: t4.map u8).all (·.oneCell') = true := (one_c o0 (one_c o1 (one_c o2 (one_c o3 (one_u8 _)))))
theorem q_spl_c4b32_0_c4b32 {a0 a1 a2 a3 : Value} {t4 : List UInt8} {b0 b1 b2 b3 : Value} {s4 : List UInt8} (h4 : t4.length = 32) (g4 : s4.length = 32) : spl (a0 :: a1 :: a2 :: a3 :: t4.map u8) 0 (b0 :: b1 :: b2 :: b3 :: s4.map u8) = b0 :: b1 :: b2 :: b3 :: s4.map u8 := (spl_a (z := 36) (len_c (n := 35) (len_c (n := 34) (len_c (n := 33) (len_c (n := 32) (len_e (k := 32) h4))))) (len_c (n := 35) (len_c (n := 34) (len_c (n := 33) (len_c (n := 32) (len_e (k := 32) g4))))))
theorem z_agg25 : aggB Tryd.prog 25 = some true := by kernel_rfl
theorem q_ld_c4b32_0_36 {a0 a1 a2 a3 : Value} {t4 : List UInt8} (h4 : t4.length = 32) : ((a0 :: a1 :: a2 :: a3 :: t4.map u8).drop 0).take 36 = a0 :: a1 :: a2 :: a3 :: t4.map u8 := (ld_a (len_c (n := 35) (len_c (n := 34) (len_c (n := 33) (len_c (n := 32) (len_e (k := 32) h4))))))
theorem z_call10 : callB Tryd.prog 10 = true := by kernel_rfl
theorem z_call26 : callB Tryd.prog 26 = true := by kernel_rfl
theorem z_zeroN23 : zeroL Tryd.prog 23 = some ((List.replicate 32 (0 : UInt8)).map u8) := by kernel_rfl
theorem z_size5 : sizeB Tryd.prog 5 = some 1 := by kernel_rfl
theorem z_call19 : callB Tryd.prog 19 = true := by kernel_rfl
theorem z_zeroN35 : zeroL Tryd.prog 35 = some ((.int .i64 0 :: (.int .i64 0 :: (.int .i64 0 :: (.string ⟨#[]⟩ :: ((List.replicate 32 (0 : UInt8)).map u8 ++ (List.replicate 32 (0 : UInt8)).map u8)))))) := by kernel_rfl
theorem z_size35 : sizeB Tryd.prog 35 = some 68 := by kernel_rfl
theorem q_one_c4b32b32 {a0 a1 a2 a3 : Value} {t4 t5 : List UInt8} (o0 : a0.oneCell' = true) (o1 : a1.oneCell' = true) (o2 : a2.oneCell' = true) (o3 : a3.oneCell' = true) : (a0 :: a1 :: a2 :: a3 :: (t4.map u8 ++ (t5.map u8))).all (·.oneCell') = true := (one_c o0 (one_c o1 (one_c o2 (one_c o3 (one_b (one_u8 _))))))
theorem q_len_c4b32b32 {a0 a1 a2 a3 : Value} {t4 t5 : List UInt8} (h4 : t4.length = 32) (h5 : t5.length = 32) : (a0 :: a1 :: a2 :: a3 :: (t4.map u8 ++ (t5.map u8))).length = 68 := (len_c (n := 67) (len_c (n := 66) (len_c (n := 65) (len_c (n := 64) (len_b (k := 32) (n := 32) h4 (len_e (k := 32) h5))))))
theorem q_spl_c4b32b32_0_c4b32b32 {a0 a1 a2 a3 : Value} {t4 t5 : List UInt8} {b0 b1 b2 b3 : Value} {s4 s5 : List UInt8} (h4 : t4.length = 32) (h5 : t5.length = 32) (g4 : s4.length = 32) (g5 : s5.length = 32) : spl (a0 :: a1 :: a2 :: a3 :: (t4.map u8 ++ (t5.map u8))) 0 (b0 :: b1 :: b2 :: b3 :: (s4.map u8 ++ (s5.map u8))) = b0 :: b1 :: b2 :: b3 :: (s4.map u8 ++ (s5.map u8)) := (spl_a (z := 68) (len_c (n := 67) (len_c (n := 66) (len_c (n := 65) (len_c (n := 64) (len_b (k := 32) (n := 32) h4 (len_e (k := 32) h5)))))) (len_c (n := 67) (len_c (n := 66) (len_c (n := 65) (len_c (n := 64) (len_b (k := 32) (n := 32) g4 (len_e (k := 32) g5)))))))
theorem z_call15 : callB Tryd.prog 15 = true := by kernel_rfl
theorem z_field35_5 : fieldB Tryd.prog 35 5 = some 36 := by kernel_rfl
theorem z_agg23 : aggB Tryd.prog 23 = some true := by kernel_rfl
theorem z_size23 : sizeB Tryd.prog 23 = some 32 := by kernel_rfl
theorem q_ld_c4b32b32_36_32 {a0 a1 a2 a3 : Value} {t4 t5 : List UInt8} (h4 : t4.length = 32) (h5 : t5.length = 32) : ((a0 :: a1 :: a2 :: a3 :: (t4.map u8 ++ (t5.map u8))).drop 36).take 32 = t5.map u8 := (ld_c (o := 35) (ld_c (o := 34) (ld_c (o := 33) (ld_c (o := 32) (ld_b (k := 32) (o := 0) h4 rfl (ld_a (len_e (k := 32) h5)))))))
theorem q_len_b32 {t0 : List UInt8} (h0 : t0.length = 32) : (t0.map u8).length = 32 := (len_e (k := 32) h0)

set_option maxRecDepth 100000 in
set_option maxHeartbeats 2000000 in
theorem awake5 {w : World} (hG : Glob 0 Sha.K w) : Calls Tryd.prog 14 #[] w (Gives (.bool true) [] w) := by
  obtain ⟨sb, hsb⟩ : ∃ x, x = Note.signBid Note.b0 := ⟨_, rfl⟩
  obtain ⟨lk, hlk⟩ : ∃ x, x = Note.link Note.Z 0 1 5 [97] := ⟨_, rfl⟩
  have hs2 : sb.2 = 0 := by rw [hsb]; exact Note.aw_sign
  have hsl : sb.1.tag.length = 32 := by rw [hsb]; exact Note.sb_len
  have hsw : (Note.writeBid sb.1).2 = 0 := by rw [hsb]; exact Note.aw_write
  have hsr : Note.readBid (Note.writeBid sb.1).1 = (sb.1, 0) := by rw [hsb]; exact Note.aw_read
  have hsc : Note.checkBid sb.1 = 0 := by rw [hsb]; exact Note.aw_check
  have wfs : Note.Bid.Wf sb.1 := by rw [hsb]; exact Note.bid_wf Note.sb_ok Note.sb_len
  have hl2 : lk.2 = 0 := by rw [hlk, Note.aw_link]
  have hlp : lk.1.prev.length = 32 := by rw [hlk]; exact Note.linkF_prev _ rfl
  have hlh : lk.1.hash.length = 32 := by rw [hlk]; exact Note.linkF_hash _ _ _ _ _
  have hln : lk.1.hash ≠ List.replicate 32 0 := by rw [hlk]; exact Note.aw_hash
  have hrl : (Note.readBid (Note.writeBid sb.1).1).1.tag.length = 32 := Note.readBid_len
  have hsg : ∀ {w : World}, Glob 0 Sha.K w → Calls Tryd.prog 12 #[.agg (Note.Bid.cells Note.b0).toArray] w (Gives (.tuple #[.agg (Note.Bid.cells sb.1).toArray, .int .i64 sb.2]) [] w) := fun hG => by rw [hsb]; exact nsign Note.b0 (Note.bid_wf Note.b0_ok rfl) hG
  have hlg : ∀ {w : World}, Glob 0 Sha.K w → Calls Tryd.prog 19 #[.agg (Note.Z.map u8).toArray, .int .i64 0, .int .i64 1, .int .i64 5, str [97]] w (Gives (.tuple #[.agg (Note.Receipt.cells lk.1).toArray, .int .i64 lk.2]) [] w) := fun hG => by rw [hlk]; exact nlinkF Note.Z rfl 0 1 5 (by omega) (by omega) (by omega) [97] (by simp) hG
  clear hsb hlk
  have lz32 : (List.replicate 32 (0 : UInt8)).length = 32 := List.length_replicate
  refine enterL (args := []) Tryd.func14 rfl rfl (l := []) (Sep.refl _) ?_
  intro a0 H0
  refine wp_seq ?_
  refine reg ?_
  refine plain (y_assign rfl rfl) rfl rfl rfl H0 ?_
  clear H0; intro a1 H1
  refine fin ?_
  refine then_n ?_
  refine wp_seq ?_
  refine reg ?_
  refine plain (y_build rfl z_zeroN25 z_places25 rfl (lay_1 (off := 0) (n := 36) rfl (q_len_c4b32 (by assumption)) (by decide) q_spl_c4b32_0_c1 (lay_1 (off := 1) (n := 36) rfl (q_len_c4b32 (by assumption)) (by decide) q_spl_c4b32_1_c1 (lay_1 (off := 2) (n := 36) rfl (q_len_c4b32 (by assumption)) (by decide) q_spl_c4b32_2_c1 lay_n (by rfl)) (by rfl)) (by rfl))) rfl rfl rfl H1 ?_
  clear H1; intro a2 H2
  refine st_callg rfl z_call12 rfl rfl rfl rfl H2 (hsg (hG.frm H2.sep.frm (by simp))) ?_
  clear H2; intro a3 wx3 H3
  refine plain (y_move rfl rfl) rfl rfl rfl H3 ?_
  clear H3; intro a4 H4
  refine plain (y_extract rfl rfl rfl) rfl rfl rfl H4 ?_
  clear H4; intro a5 H5
  refine plain (y_extract rfl rfl rfl) rfl rfl rfl H5 ?_
  clear H5; intro a6 H6
  refine st_alloc rfl z_zeroN25 rfl rfl rfl H6 ?_
  clear H6; intro b7 a7 wx7 H7
  refine st_storeN rfl z_size25 rfl rfl (agg_cells _) (by repeat (first | exact Uh | apply Ut)) (q_one_c4b32 rfl rfl rfl rfl) (q_len_c4b32 (by assumption)) (q_len_c4b32 (by assumption)) (q_spl_c4b32_0_c4b32 (by assumption) (by assumption)) (by decide) rfl rfl H7 ?_
  clear H7; intro wx8 H8
  refine plain (y_assign rfl rfl) rfl rfl rfl H8 ?_
  clear H8; intro a9 H9
  refine fin ?_
  refine then_n ?_
  refine wp_seq ?_
  refine reg ?_
  refine plain (y_loadAB rfl z_agg25 z_size25 rfl (by repeat (first | exact Mh | apply Mt)) (q_ld_c4b32_0_36 (by assumption)) (q_len_c4b32 (by assumption))) rfl rfl rfl H9 ?_
  clear H9; intro a10 H10
  refine st_callg rfl z_call10 rfl rfl rfl rfl H10 (nwbid sb.1 wfs _) ?_
  clear H10; intro a11 wx11 H11
  refine plain (y_move rfl rfl) rfl rfl rfl H11 ?_
  clear H11; intro a12 H12
  refine plain (y_extract rfl rfl rfl) rfl rfl rfl H12 ?_
  clear H12; intro a13 H13
  refine plain (y_extract rfl rfl rfl) rfl rfl rfl H13 ?_
  clear H13; intro a14 H14
  refine plain (y_assign rfl rfl) rfl rfl rfl H14 ?_
  clear H14; intro a15 H15
  refine plain (y_assign rfl rfl) rfl rfl rfl H15 ?_
  clear H15; intro a16 H16
  refine fin ?_
  refine then_n ?_
  refine wp_seq ?_
  refine reg ?_
  refine plain (y_move rfl rfl) rfl rfl rfl H16 ?_
  clear H16; intro a17 H17
  refine st_callg rfl z_call26 rfl rfl rfl rfl H17 (nreadbid (Note.writeBid sb.1).1 (by have := Note.wbid_len (b := sb.1); omega)) ?_
  clear H17; intro a18 wx18 H18
  refine plain (y_move rfl rfl) rfl rfl rfl H18 ?_
  clear H18; intro a19 H19
  refine plain (y_extract rfl rfl rfl) rfl rfl rfl H19 ?_
  clear H19; intro a20 H20
  refine plain (y_extract rfl rfl rfl) rfl rfl rfl H20 ?_
  clear H20; intro a21 H21
  refine st_alloc rfl z_zeroN25 rfl rfl rfl H21 ?_
  clear H21; intro b22 a22 wx22 H22
  refine st_storeN rfl z_size25 rfl rfl (agg_cells _) (by repeat (first | exact Uh | apply Ut)) (q_one_c4b32 rfl rfl rfl rfl) (q_len_c4b32 (by assumption)) (q_len_c4b32 (by assumption)) (q_spl_c4b32_0_c4b32 (by assumption) (by assumption)) (by decide) rfl rfl H22 ?_
  clear H22; intro wx23 H23
  refine plain (y_assign rfl rfl) rfl rfl rfl H23 ?_
  clear H23; intro a24 H24
  refine fin ?_
  refine then_n ?_
  refine wp_seq ?_
  refine reg ?_
  refine plain (y_buildA rfl z_zeroN23 Tryd.underlying23 z_size5 rfl lay_n) rfl rfl rfl H24 ?_
  clear H24; intro a25 H25
  refine st_callg rfl z_call19 rfl rfl rfl rfl H25 (hlg (hG.frm H25.sep.frm (by simp))) ?_
  clear H25; intro a26 wx26 H26
  refine plain (y_move rfl rfl) rfl rfl rfl H26 ?_
  clear H26; intro a27 H27
  refine plain (y_extract rfl rfl rfl) rfl rfl rfl H27 ?_
  clear H27; intro a28 H28
  refine plain (y_extract rfl rfl rfl) rfl rfl rfl H28 ?_
  clear H28; intro a29 H29
  refine st_alloc rfl z_zeroN35 rfl rfl rfl H29 ?_
  clear H29; intro b30 a30 wx30 H30
  refine st_storeN rfl z_size35 rfl rfl (agg_cells _) (by repeat (first | exact Uh | apply Ut)) (q_one_c4b32b32 rfl rfl rfl rfl) (q_len_c4b32b32 (by assumption) (by assumption)) (q_len_c4b32b32 (by assumption) (by assumption)) (q_spl_c4b32b32_0_c4b32b32 (by assumption) (by assumption) (by assumption) (by assumption)) (by decide) rfl rfl H30 ?_
  clear H30; intro wx31 H31
  refine plain (y_assign rfl rfl) rfl rfl rfl H31 ?_
  clear H31; intro a32 H32
  refine fin ?_
  refine then_n ?_
  refine wp_seq ?_
  refine reg ?_
  refine plain (y_move rfl rfl) rfl rfl rfl H32 ?_
  clear H32; intro a33 H33
  refine plain (y_eql rfl rfl rfl) rfl rfl rfl H33 ?_
  clear H33; intro a34 H34
  refine plain (y_move rfl rfl) rfl rfl rfl H34 ?_
  clear H34; intro a35 H35
  have H37 := H35.know (d := 31) (v := .bool true) rfl (congrArg Value.bool (decide_eq_true (hs2)))
  clear H35
  refine plain (y_move rfl rfl) rfl rfl rfl H37 ?_
  clear H37; intro a38 H38
  refine plain (y_eql rfl rfl rfl) rfl rfl rfl H38 ?_
  clear H38; intro a39 H39
  refine plain (y_pick_t rfl rfl rfl) rfl rfl rfl H39 ?_
  clear H39; intro a40 H40
  refine plain (y_move rfl rfl) rfl rfl rfl H40 ?_
  clear H40; intro a41 H41
  have H43 := H41.know (d := 35) (v := .bool true) rfl (congrArg Value.bool (decide_eq_true (hsw)))
  clear H41
  refine plain (y_move rfl rfl) rfl rfl rfl H43 ?_
  clear H43; intro a44 H44
  refine plain (y_eql rfl rfl rfl) rfl rfl rfl H44 ?_
  clear H44; intro a45 H45
  refine plain (y_pick_t rfl rfl rfl) rfl rfl rfl H45 ?_
  clear H45; intro a46 H46
  refine plain (y_move rfl rfl) rfl rfl rfl H46 ?_
  clear H46; intro a47 H47
  have H49 := H47.know (d := 39) (v := .bool true) rfl (congrArg Value.bool (decide_eq_true (by rw [hsr])))
  clear H47
  refine plain (y_loadAB rfl z_agg25 z_size25 rfl (by repeat (first | exact Mh | apply Mt)) (q_ld_c4b32_0_36 (by assumption)) (q_len_c4b32 (by assumption))) rfl rfl rfl H49 ?_
  clear H49; intro a50 H50
  refine plain (y_loadAB rfl z_agg25 z_size25 rfl (by repeat (first | exact Mh | apply Mt)) (q_ld_c4b32_0_36 (by assumption)) (q_len_c4b32 (by assumption))) rfl rfl rfl H50 ?_
  clear H50; intro a51 H51
  refine plain (y_teql rfl (by kernel_rfl) rfl rfl (eqr_Bid sb.1 (Note.readBid (Note.writeBid sb.1).1).1 hsl hrl)) rfl rfl rfl H51 ?_
  clear H51; intro a52 H52
  refine plain (y_pick_t rfl rfl rfl) rfl rfl rfl H52 ?_
  clear H52; intro a53 H53
  refine plain (y_move rfl rfl) rfl rfl rfl H53 ?_
  clear H53; intro a54 H54
  have H56 := H54.know (d := 44) (v := .bool true) rfl (congrArg Value.bool (decide_eq_true (by rw [hsr])))
  clear H54
  refine plain (y_loadAB rfl z_agg25 z_size25 rfl (by repeat (first | exact Mh | apply Mt)) (q_ld_c4b32_0_36 (by assumption)) (q_len_c4b32 (by assumption))) rfl rfl rfl H56 ?_
  clear H56; intro a57 H57
  refine st_callg rfl z_call15 rfl rfl rfl rfl H57 (ncheck sb.1 wfs (hG.frm H57.sep.frm (by simp))) ?_
  clear H57; intro a58 wx58 H58
  refine plain (y_eql rfl rfl rfl) rfl rfl rfl H58 ?_
  clear H58; intro a59 H59
  refine plain (y_pick_t rfl rfl rfl) rfl rfl rfl H59 ?_
  clear H59; intro a60 H60
  refine plain (y_move rfl rfl) rfl rfl rfl H60 ?_
  clear H60; intro a61 H61
  have H63 := H61.know (d := 49) (v := .bool true) rfl (congrArg Value.bool (decide_eq_true (hsc)))
  clear H61
  refine plain (y_move rfl rfl) rfl rfl rfl H63 ?_
  clear H63; intro a64 H64
  refine plain (y_eql rfl rfl rfl) rfl rfl rfl H64 ?_
  clear H64; intro a65 H65
  refine plain (y_pick_t rfl rfl rfl) rfl rfl rfl H65 ?_
  clear H65; intro a66 H66
  refine plain (y_move rfl rfl) rfl rfl rfl H66 ?_
  clear H66; intro a67 H67
  have H69 := H67.know (d := 53) (v := .bool true) rfl (congrArg Value.bool (decide_eq_true (hl2)))
  clear H67
  refine plain (y_fieldB rfl z_field35_5 rfl (by first | (simp only [Nat.zero_add, Nat.add_zero, Nat.reduceAdd]; rfl) | rfl)) rfl rfl rfl H69 ?_
  clear H69; intro a70 H70
  refine plain (y_loadAB rfl z_agg23 z_size23 rfl (by repeat (first | exact Mh | apply Mt)) (q_ld_c4b32b32_36_32 (by assumption) (by assumption)) (q_len_b32 (by assumption))) rfl rfl rfl H70 ?_
  clear H70; intro a71 H71
  refine plain (y_buildA rfl z_zeroN23 Tryd.underlying23 z_size5 rfl lay_n) rfl rfl rfl H71 ?_
  clear H71; intro a72 H72
  refine plain (y_hneq rfl Tryd.eqGuardType23 Tryd.underlying23 Tryd.underlying5 z_size5 rfl rfl (by assumption) (by assumption)) rfl rfl rfl H72 ?_
  clear H72; intro a73 H73
  refine plain (y_pick_t rfl rfl rfl) rfl rfl rfl H73 ?_
  clear H73; intro a74 H74
  refine plain (y_assign rfl rfl) rfl rfl rfl H74 ?_
  clear H74; intro a75 H75
  refine fin ?_
  refine then_n ?_
  refine wp_ret ?_
  -- return 1
  refine ret1 rfl H75 rfl ?_
  exact ⟨_, [], rfl, ⟨congrArg Value.bool (decide_eq_true hln), rfl⟩, H75.sep.sub (List.nil_sublist _)⟩

end Go.Proofs.YtnnhnnhdoipbaaaDoor.N_Aw

set_option linter.unusedVariables false
set_option linter.unusedSimpArgs false
namespace Go.Proofs.YtnnhnnhdoipbaaaDoor.N_L2
open Go.Sx Go.RowKit Go.Proofs.YtnnhnnhdoipbaaaDoor.N_Block Go.Proofs.YtnnhnnhdoipbaaaDoor.N_Sum Go.Proofs.YtnnhnnhdoipbaaaDoor.N_Ref Go.Proofs.YtnnhnnhdoipbaaaDoor.N_RSum Go.Proofs.YtnnhnnhdoipbaaaDoor.N_Leaf Go.Proofs.YtnnhnnhdoipbaaaDoor.N_Num Go.Proofs.YtnnhnnhdoipbaaaDoor.N_Key Go.Proofs.YtnnhnnhdoipbaaaDoor.N_Ref Go.Proofs.YtnnhnnhdoipbaaaDoor.N_RSum Go.Proofs.YtnnhnnhdoipbaaaDoor.N_Tag Go.Proofs.YtnnhnnhdoipbaaaDoor.N_Read Go.Proofs.YtnnhnnhdoipbaaaDoor.N_Lay Go.Proofs.YtnnhnnhdoipbaaaDoor.N_Eq Go.Proofs.YtnnhnnhdoipbaaaDoor.N_Ref0 Go.Proofs.YtnnhnnhdoipbaaaDoor.N_Rec Go.Proofs.YtnnhnnhdoipbaaaDoor.N_RRec Go.Proofs.YtnnhnnhdoipbaaaDoor.N_Fields Go.Proofs.YtnnhnnhdoipbaaaDoor.N_RBid Go.Proofs.YtnnhnnhdoipbaaaDoor.N_Sign Go.Proofs.YtnnhnnhdoipbaaaDoor.N_Item Go.Proofs.YtnnhnnhdoipbaaaDoor.N_WBatch Go.Proofs.YtnnhnnhdoipbaaaDoor.N_RBatch Go.Proofs.YtnnhnnhdoipbaaaDoor.N_RefB Go.Proofs.YtnnhnnhdoipbaaaDoor.N_RefI Go.Proofs.YtnnhnnhdoipbaaaDoor.N_RefR Go.Proofs.YtnnhnnhdoipbaaaDoor.N_RWBatch Go.Proofs.YtnnhnnhdoipbaaaDoor.N_RRBatch Go.Proofs.YtnnhnnhdoipbaaaDoor.N_Aw

theorem z_call26 : callB Tryd.prog 26 = true := by kernel_rfl
theorem z_zeroN25 : zeroL Tryd.prog 25 = some ((.int .i64 0 :: (.int .i64 0 :: (.int .i64 0 :: (.int .i64 0 :: (List.replicate 32 (0 : UInt8)).map u8))))) := by kernel_rfl
theorem z_size25 : sizeB Tryd.prog 25 = some 36 := by kernel_rfl
theorem q_one_c4b32 {a0 a1 a2 a3 : Value} {t4 : List UInt8} (o0 : a0.oneCell' = true) (o1 : a1.oneCell' = true) (o2 : a2.oneCell' = true) (o3 : a3.oneCell' = true) : (a0 :: a1 :: a2 :: a3 :: t4.map u8).all (·.oneCell') = true := (one_c o0 (one_c o1 (one_c o2 (one_c o3 (one_u8 _)))))
theorem q_len_c4b32 {a0 a1 a2 a3 : Value} {t4 : List UInt8} (h4 : t4.length = 32) : (a0 :: a1 :: a2 :: a3 :: t4.map u8).length = 36 := (len_c (n := 35) (len_c (n := 34) (len_c (n := 33) (len_c (n := 32) (len_e (k := 32) h4)))))
theorem q_spl_c4b32_0_c4b32 {a0 a1 a2 a3 : Value} {t4 : List UInt8} {b0 b1 b2 b3 : Value} {s4 : List UInt8} (h4 : t4.length = 32) (g4 : s4.length = 32) : spl (a0 :: a1 :: a2 :: a3 :: t4.map u8) 0 (b0 :: b1 :: b2 :: b3 :: s4.map u8) = b0 :: b1 :: b2 :: b3 :: s4.map u8 := (spl_a (z := 36) (len_c (n := 35) (len_c (n := 34) (len_c (n := 33) (len_c (n := 32) (len_e (k := 32) h4))))) (len_c (n := 35) (len_c (n := 34) (len_c (n := 33) (len_c (n := 32) (len_e (k := 32) g4))))))
theorem z_call27 : callB Tryd.prog 27 = true := by kernel_rfl
theorem z_call25 : callB Tryd.prog 25 = true := by kernel_rfl
theorem z_zeroN35 : zeroL Tryd.prog 35 = some ((.int .i64 0 :: (.int .i64 0 :: (.int .i64 0 :: (.string ⟨#[]⟩ :: ((List.replicate 32 (0 : UInt8)).map u8 ++ (List.replicate 32 (0 : UInt8)).map u8)))))) := by kernel_rfl
theorem z_size35 : sizeB Tryd.prog 35 = some 68 := by kernel_rfl
theorem q_one_c4b32b32 {a0 a1 a2 a3 : Value} {t4 t5 : List UInt8} (o0 : a0.oneCell' = true) (o1 : a1.oneCell' = true) (o2 : a2.oneCell' = true) (o3 : a3.oneCell' = true) : (a0 :: a1 :: a2 :: a3 :: (t4.map u8 ++ (t5.map u8))).all (·.oneCell') = true := (one_c o0 (one_c o1 (one_c o2 (one_c o3 (one_b (one_u8 _))))))
theorem q_len_c4b32b32 {a0 a1 a2 a3 : Value} {t4 t5 : List UInt8} (h4 : t4.length = 32) (h5 : t5.length = 32) : (a0 :: a1 :: a2 :: a3 :: (t4.map u8 ++ (t5.map u8))).length = 68 := (len_c (n := 67) (len_c (n := 66) (len_c (n := 65) (len_c (n := 64) (len_b (k := 32) (n := 32) h4 (len_e (k := 32) h5))))))
theorem q_spl_c4b32b32_0_c4b32b32 {a0 a1 a2 a3 : Value} {t4 t5 : List UInt8} {b0 b1 b2 b3 : Value} {s4 s5 : List UInt8} (h4 : t4.length = 32) (h5 : t5.length = 32) (g4 : s4.length = 32) (g5 : s5.length = 32) : spl (a0 :: a1 :: a2 :: a3 :: (t4.map u8 ++ (t5.map u8))) 0 (b0 :: b1 :: b2 :: b3 :: (s4.map u8 ++ (s5.map u8))) = b0 :: b1 :: b2 :: b3 :: (s4.map u8 ++ (s5.map u8)) := (spl_a (z := 68) (len_c (n := 67) (len_c (n := 66) (len_c (n := 65) (len_c (n := 64) (len_b (k := 32) (n := 32) h4 (len_e (k := 32) h5)))))) (len_c (n := 67) (len_c (n := 66) (len_c (n := 65) (len_c (n := 64) (len_b (k := 32) (n := 32) g4 (len_e (k := 32) g5)))))))
theorem z_call28 : callB Tryd.prog 28 = true := by kernel_rfl
theorem z_call29 : callB Tryd.prog 29 = true := by kernel_rfl
theorem z_zeroN42 : zeroL Tryd.prog 42 = some ((.int .i64 0 :: (.int .i64 0 :: (.int .i64 0 :: (.slice none 0 0 :: []))))) := by kernel_rfl
theorem z_size42 : sizeB Tryd.prog 42 = some 4 := by kernel_rfl
theorem q_one_c4 {a0 a1 a2 a3 : Value} (o0 : a0.oneCell' = true) (o1 : a1.oneCell' = true) (o2 : a2.oneCell' = true) (o3 : a3.oneCell' = true) : (a0 :: a1 :: a2 :: a3 :: []).all (·.oneCell') = true := (one_c o0 (one_c o1 (one_c o2 (one_c o3 one_n))))
theorem q_len_c4 {a0 a1 a2 a3 : Value} : (a0 :: a1 :: a2 :: a3 :: []).length = 4 := (len_c (n := 3) (len_c (n := 2) (len_c (n := 1) (len_c (n := 0) len_n))))
theorem q_spl_c4_0_c4 {a0 a1 a2 a3 : Value} {b0 b1 b2 b3 : Value} : spl (a0 :: a1 :: a2 :: a3 :: []) 0 (b0 :: b1 :: b2 :: b3 :: []) = b0 :: b1 :: b2 :: b3 :: [] := (spl_a (z := 4) (len_c (n := 3) (len_c (n := 2) (len_c (n := 1) (len_c (n := 0) len_n)))) (len_c (n := 3) (len_c (n := 2) (len_c (n := 1) (len_c (n := 0) len_n)))))
theorem z_call30 : callB Tryd.prog 30 = true := by kernel_rfl
theorem z_call31 : callB Tryd.prog 31 = true := by kernel_rfl
theorem z_zeroN46 : zeroL Tryd.prog 46 = some ((.int .i64 0 :: (.int .i64 0 :: (.int .i64 0 :: (.string ⟨#[]⟩ :: []))))) := by kernel_rfl
theorem z_size46 : sizeB Tryd.prog 46 = some 4 := by kernel_rfl
theorem z_call32 : callB Tryd.prog 32 = true := by kernel_rfl
theorem z_call14 : callB Tryd.prog 14 = true := by kernel_rfl
theorem z_agg25 : aggB Tryd.prog 25 = some true := by kernel_rfl
theorem q_ld_c4b32_0_36 {a0 a1 a2 a3 : Value} {t4 : List UInt8} (h4 : t4.length = 32) : ((a0 :: a1 :: a2 :: a3 :: t4.map u8).drop 0).take 36 = a0 :: a1 :: a2 :: a3 :: t4.map u8 := (ld_a (len_c (n := 35) (len_c (n := 34) (len_c (n := 33) (len_c (n := 32) (len_e (k := 32) h4))))))
theorem z_agg35 : aggB Tryd.prog 35 = some true := by kernel_rfl
theorem q_ld_c4b32b32_0_68 {a0 a1 a2 a3 : Value} {t4 t5 : List UInt8} (h4 : t4.length = 32) (h5 : t5.length = 32) : ((a0 :: a1 :: a2 :: a3 :: (t4.map u8 ++ (t5.map u8))).drop 0).take 68 = a0 :: a1 :: a2 :: a3 :: (t4.map u8 ++ (t5.map u8)) := (ld_a (len_c (n := 67) (len_c (n := 66) (len_c (n := 65) (len_c (n := 64) (len_b (k := 32) (n := 32) h4 (len_e (k := 32) h5)))))))
theorem z_agg42 : aggB Tryd.prog 42 = some true := by kernel_rfl
theorem q_ld_c4_0_4 {a0 a1 a2 a3 : Value} : ((a0 :: a1 :: a2 :: a3 :: []).drop 0).take 4 = a0 :: a1 :: a2 :: a3 :: [] := (ld_a (len_c (n := 3) (len_c (n := 2) (len_c (n := 1) (len_c (n := 0) len_n)))))
theorem z_call33 : callB Tryd.prog 33 = true := by kernel_rfl
theorem z_agg46 : aggB Tryd.prog 46 = some true := by kernel_rfl

set_option maxRecDepth 100000 in
set_option maxHeartbeats 4000000 in
theorem notesReads (s : List UInt8) (hs : s.length ≤ 140737488351232) {w : World} (hG : Glob 0 Sha.K w) : Calls Tryd.prog 8 #[str s] w (Gives (.bool true) [] w) := by
  have lz32 : (List.replicate 32 (0 : UInt8)).length = 32 := List.length_replicate
  refine enterL (args := [str s]) Tryd.func8 rfl rfl (l := []) (Sep.refl _) ?_
  intro a0 H0
  refine wp_seq ?_
  refine reg ?_
  refine plain (y_assign rfl rfl) rfl rfl rfl H0 ?_
  clear H0; intro a1 H1
  refine fin ?_
  refine then_n ?_
  refine wp_seq ?_
  refine reg ?_
  refine plain (y_move rfl rfl) rfl rfl rfl H1 ?_
  clear H1; intro a2 H2
  refine st_callg rfl z_call26 rfl rfl rfl rfl H2 (nreadbid s hs) ?_
  clear H2; intro a3 wx3 H3
  refine plain (y_move rfl rfl) rfl rfl rfl H3 ?_
  clear H3; intro a4 H4
  refine plain (y_extract rfl rfl rfl) rfl rfl rfl H4 ?_
  clear H4; intro a5 H5
  refine plain (y_extract rfl rfl rfl) rfl rfl rfl H5 ?_
  clear H5; intro a6 H6
  refine st_alloc rfl z_zeroN25 rfl rfl rfl H6 ?_
  clear H6; intro b7 a7 wx7 H7
  refine st_storeN rfl z_size25 rfl rfl (agg_cells _) (by repeat (first | exact Uh | apply Ut)) (q_one_c4b32 rfl rfl rfl rfl) (q_len_c4b32 (by first | assumption | exact Note.readBid_len | exact Note.readReceipt_len.1 | exact Note.readReceipt_len.2)) (q_len_c4b32 (by first | assumption | exact Note.readBid_len | exact Note.readReceipt_len.1 | exact Note.readReceipt_len.2)) (q_spl_c4b32_0_c4b32 (by first | assumption | exact Note.readBid_len | exact Note.readReceipt_len.1 | exact Note.readReceipt_len.2) (by first | assumption | exact Note.readBid_len | exact Note.readReceipt_len.1 | exact Note.readReceipt_len.2)) (by decide) rfl rfl H7 ?_
  clear H7; intro wx8 H8
  refine plain (y_assign rfl rfl) rfl rfl rfl H8 ?_
  clear H8; intro a9 H9
  refine fin ?_
  refine then_n ?_
  refine wp_seq ?_
  refine reg ?_
  refine plain (y_move rfl rfl) rfl rfl rfl H9 ?_
  clear H9; intro a10 H10
  refine st_callg rfl z_call27 rfl rfl rfl rfl H10 (rreadbid s hs) ?_
  clear H10; intro a11 wx11 H11
  refine plain (y_move rfl rfl) rfl rfl rfl H11 ?_
  clear H11; intro a12 H12
  refine plain (y_extract rfl rfl rfl) rfl rfl rfl H12 ?_
  clear H12; intro a13 H13
  refine plain (y_extract rfl rfl rfl) rfl rfl rfl H13 ?_
  clear H13; intro a14 H14
  refine st_alloc rfl z_zeroN25 rfl rfl rfl H14 ?_
  clear H14; intro b15 a15 wx15 H15
  refine st_storeN rfl z_size25 rfl rfl (agg_cells _) (by repeat (first | exact Uh | apply Ut)) (q_one_c4b32 rfl rfl rfl rfl) (q_len_c4b32 (by first | assumption | exact Note.readBid_len | exact Note.readReceipt_len.1 | exact Note.readReceipt_len.2)) (q_len_c4b32 (by first | assumption | exact Note.readBid_len | exact Note.readReceipt_len.1 | exact Note.readReceipt_len.2)) (q_spl_c4b32_0_c4b32 (by first | assumption | exact Note.readBid_len | exact Note.readReceipt_len.1 | exact Note.readReceipt_len.2) (by first | assumption | exact Note.readBid_len | exact Note.readReceipt_len.1 | exact Note.readReceipt_len.2)) (by decide) rfl rfl H15 ?_
  clear H15; intro wx16 H16
  refine plain (y_assign rfl rfl) rfl rfl rfl H16 ?_
  clear H16; intro a17 H17
  refine fin ?_
  refine then_n ?_
  refine wp_seq ?_
  refine reg ?_
  refine plain (y_move rfl rfl) rfl rfl rfl H17 ?_
  clear H17; intro a18 H18
  refine st_callg rfl z_call25 rfl rfl rfl rfl H18 (nreadrec s hs (hG.frm H18.sep.frm (by simp))) ?_
  clear H18; intro a19 wx19 H19
  refine plain (y_move rfl rfl) rfl rfl rfl H19 ?_
  clear H19; intro a20 H20
  refine plain (y_extract rfl rfl rfl) rfl rfl rfl H20 ?_
  clear H20; intro a21 H21
  refine plain (y_extract rfl rfl rfl) rfl rfl rfl H21 ?_
  clear H21; intro a22 H22
  refine st_alloc rfl z_zeroN35 rfl rfl rfl H22 ?_
  clear H22; intro b23 a23 wx23 H23
  refine st_storeN rfl z_size35 rfl rfl (agg_cells _) (by repeat (first | exact Uh | apply Ut)) (q_one_c4b32b32 rfl rfl rfl rfl) (q_len_c4b32b32 (by first | assumption | exact Note.readBid_len | exact Note.readReceipt_len.1 | exact Note.readReceipt_len.2) (by first | assumption | exact Note.readBid_len | exact Note.readReceipt_len.1 | exact Note.readReceipt_len.2)) (q_len_c4b32b32 (by first | assumption | exact Note.readBid_len | exact Note.readReceipt_len.1 | exact Note.readReceipt_len.2) (by first | assumption | exact Note.readBid_len | exact Note.readReceipt_len.1 | exact Note.readReceipt_len.2)) (q_spl_c4b32b32_0_c4b32b32 (by first | assumption | exact Note.readBid_len | exact Note.readReceipt_len.1 | exact Note.readReceipt_len.2) (by first | assumption | exact Note.readBid_len | exact Note.readReceipt_len.1 | exact Note.readReceipt_len.2) (by first | assumption | exact Note.readBid_len | exact Note.readReceipt_len.1 | exact Note.readReceipt_len.2) (by first | assumption | exact Note.readBid_len | exact Note.readReceipt_len.1 | exact Note.readReceipt_len.2)) (by decide) rfl rfl H23 ?_
  clear H23; intro wx24 H24
  refine plain (y_assign rfl rfl) rfl rfl rfl H24 ?_
  clear H24; intro a25 H25
  refine fin ?_
  refine then_n ?_
  refine wp_seq ?_
  refine reg ?_
  refine plain (y_move rfl rfl) rfl rfl rfl H25 ?_
  clear H25; intro a26 H26
  refine st_callg rfl z_call28 rfl rfl rfl rfl H26 (rreadrec s hs) ?_
  clear H26; intro a27 wx27 H27
  refine plain (y_move rfl rfl) rfl rfl rfl H27 ?_
  clear H27; intro a28 H28
  refine plain (y_extract rfl rfl rfl) rfl rfl rfl H28 ?_
  clear H28; intro a29 H29
  refine plain (y_extract rfl rfl rfl) rfl rfl rfl H29 ?_
  clear H29; intro a30 H30
  refine st_alloc rfl z_zeroN35 rfl rfl rfl H30 ?_
  clear H30; intro b31 a31 wx31 H31
  refine st_storeN rfl z_size35 rfl rfl (agg_cells _) (by repeat (first | exact Uh | apply Ut)) (q_one_c4b32b32 rfl rfl rfl rfl) (q_len_c4b32b32 (by first | assumption | exact Note.readBid_len | exact Note.readReceipt_len.1 | exact Note.readReceipt_len.2) (by first | assumption | exact Note.readBid_len | exact Note.readReceipt_len.1 | exact Note.readReceipt_len.2)) (q_len_c4b32b32 (by first | assumption | exact Note.readBid_len | exact Note.readReceipt_len.1 | exact Note.readReceipt_len.2) (by first | assumption | exact Note.readBid_len | exact Note.readReceipt_len.1 | exact Note.readReceipt_len.2)) (q_spl_c4b32b32_0_c4b32b32 (by first | assumption | exact Note.readBid_len | exact Note.readReceipt_len.1 | exact Note.readReceipt_len.2) (by first | assumption | exact Note.readBid_len | exact Note.readReceipt_len.1 | exact Note.readReceipt_len.2) (by first | assumption | exact Note.readBid_len | exact Note.readReceipt_len.1 | exact Note.readReceipt_len.2) (by first | assumption | exact Note.readBid_len | exact Note.readReceipt_len.1 | exact Note.readReceipt_len.2)) (by decide) rfl rfl H31 ?_
  clear H31; intro wx32 H32
  refine plain (y_assign rfl rfl) rfl rfl rfl H32 ?_
  clear H32; intro a33 H33
  refine fin ?_
  refine then_n ?_
  refine wp_seq ?_
  refine reg ?_
  refine plain (y_move rfl rfl) rfl rfl rfl H33 ?_
  clear H33; intro a34 H34
  refine st_call rfl z_call29 rfl rfl rfl rfl H34 (nreadbatch s hs) ?_
  clear H34; intro v35 l35 a35 wx35 hf35 H35
  obtain ⟨Abx, cbx, rfl, rfl⟩ := hf35
  simp only [List.cons_append, List.nil_append] at H35
  refine plain (y_move rfl rfl) rfl rfl rfl H35 ?_
  clear H35; intro a36 H36
  refine plain (y_extract rfl rfl rfl) rfl rfl rfl H36 ?_
  clear H36; intro a37 H37
  refine plain (y_extract rfl rfl rfl) rfl rfl rfl H37 ?_
  clear H37; intro a38 H38
  refine st_alloc rfl z_zeroN42 rfl rfl rfl H38 ?_
  clear H38; intro b39 a39 wx39 H39
  refine st_storeN rfl z_size42 rfl rfl (agg_cells _) (by repeat (first | exact Uh | apply Ut)) (q_one_c4 rfl rfl rfl rfl) q_len_c4 q_len_c4 q_spl_c4_0_c4 (by decide) rfl rfl H39 ?_
  clear H39; intro wx40 H40
  refine plain (y_assign rfl rfl) rfl rfl rfl H40 ?_
  clear H40; intro a41 H41
  refine fin ?_
  refine then_n ?_
  refine wp_seq ?_
  refine reg ?_
  refine plain (y_move rfl rfl) rfl rfl rfl H41 ?_
  clear H41; intro a42 H42
  refine st_call rfl z_call30 rfl rfl rfl rfl H42 (rreadbatch s hs) ?_
  clear H42; intro v43 l43 a43 wx43 hf43 H43
  obtain ⟨Aby, cby, rfl, rfl⟩ := hf43
  simp only [List.cons_append, List.nil_append] at H43
  refine plain (y_move rfl rfl) rfl rfl rfl H43 ?_
  clear H43; intro a44 H44
  refine plain (y_extract rfl rfl rfl) rfl rfl rfl H44 ?_
  clear H44; intro a45 H45
  refine plain (y_extract rfl rfl rfl) rfl rfl rfl H45 ?_
  clear H45; intro a46 H46
  refine st_alloc rfl z_zeroN42 rfl rfl rfl H46 ?_
  clear H46; intro b47 a47 wx47 H47
  refine st_storeN rfl z_size42 rfl rfl (agg_cells _) (by repeat (first | exact Uh | apply Ut)) (q_one_c4 rfl rfl rfl rfl) q_len_c4 q_len_c4 q_spl_c4_0_c4 (by decide) rfl rfl H47 ?_
  clear H47; intro wx48 H48
  refine plain (y_assign rfl rfl) rfl rfl rfl H48 ?_
  clear H48; intro a49 H49
  refine fin ?_
  refine then_n ?_
  refine wp_seq ?_
  refine reg ?_
  refine plain (y_move rfl rfl) rfl rfl rfl H49 ?_
  clear H49; intro a50 H50
  refine st_callg rfl z_call31 rfl rfl rfl rfl H50 (nreaditem s hs) ?_
  clear H50; intro a51 wx51 H51
  refine plain (y_move rfl rfl) rfl rfl rfl H51 ?_
  clear H51; intro a52 H52
  refine plain (y_extract rfl rfl rfl) rfl rfl rfl H52 ?_
  clear H52; intro a53 H53
  refine plain (y_extract rfl rfl rfl) rfl rfl rfl H53 ?_
  clear H53; intro a54 H54
  refine st_alloc rfl z_zeroN46 rfl rfl rfl H54 ?_
  clear H54; intro b55 a55 wx55 H55
  refine st_storeN rfl z_size46 rfl rfl (agg_cells _) (by repeat (first | exact Uh | apply Ut)) (q_one_c4 rfl rfl rfl rfl) q_len_c4 q_len_c4 q_spl_c4_0_c4 (by decide) rfl rfl H55 ?_
  clear H55; intro wx56 H56
  refine plain (y_assign rfl rfl) rfl rfl rfl H56 ?_
  clear H56; intro a57 H57
  refine fin ?_
  refine then_n ?_
  refine wp_seq ?_
  refine reg ?_
  refine plain (y_move rfl rfl) rfl rfl rfl H57 ?_
  clear H57; intro a58 H58
  refine st_callg rfl z_call32 rfl rfl rfl rfl H58 (rreaditem s hs) ?_
  clear H58; intro a59 wx59 H59
  refine plain (y_move rfl rfl) rfl rfl rfl H59 ?_
  clear H59; intro a60 H60
  refine plain (y_extract rfl rfl rfl) rfl rfl rfl H60 ?_
  clear H60; intro a61 H61
  refine plain (y_extract rfl rfl rfl) rfl rfl rfl H61 ?_
  clear H61; intro a62 H62
  refine st_alloc rfl z_zeroN46 rfl rfl rfl H62 ?_
  clear H62; intro b63 a63 wx63 H63
  refine st_storeN rfl z_size46 rfl rfl (agg_cells _) (by repeat (first | exact Uh | apply Ut)) (q_one_c4 rfl rfl rfl rfl) q_len_c4 q_len_c4 q_spl_c4_0_c4 (by decide) rfl rfl H63 ?_
  clear H63; intro wx64 H64
  refine plain (y_assign rfl rfl) rfl rfl rfl H64 ?_
  clear H64; intro a65 H65
  refine fin ?_
  refine then_n ?_
  refine wp_seq ?_
  refine reg ?_
  refine st_callg rfl z_call14 rfl rfl rfl rfl H65 (awake5 (hG.frm H65.sep.frm (by simp))) ?_
  clear H65; intro a66 wx66 H66
  refine plain (y_move rfl rfl) rfl rfl rfl H66 ?_
  clear H66; intro a67 H67
  refine plain (y_loadAB rfl z_agg25 z_size25 rfl (by repeat (first | exact Mh | apply Mt)) (q_ld_c4b32_0_36 (by first | assumption | exact Note.readBid_len | exact Note.readReceipt_len.1 | exact Note.readReceipt_len.2)) (q_len_c4b32 (by first | assumption | exact Note.readBid_len | exact Note.readReceipt_len.1 | exact Note.readReceipt_len.2))) rfl rfl rfl H67 ?_
  clear H67; intro a68 H68
  refine plain (y_loadAB rfl z_agg25 z_size25 rfl (by repeat (first | exact Mh | apply Mt)) (q_ld_c4b32_0_36 (by first | assumption | exact Note.readBid_len | exact Note.readReceipt_len.1 | exact Note.readReceipt_len.2)) (q_len_c4b32 (by first | assumption | exact Note.readBid_len | exact Note.readReceipt_len.1 | exact Note.readReceipt_len.2))) rfl rfl rfl H68 ?_
  clear H68; intro a69 H69
  refine plain (y_teql rfl (by kernel_rfl) rfl rfl (eqr_Bid (Note.readBid s).1 (Note.readBid s).1 Note.readBid_len Note.readBid_len)) rfl rfl rfl H69 ?_
  clear H69; intro a70 H70
  refine plain (y_pick_t rfl rfl rfl) rfl rfl rfl H70 ?_
  clear H70; intro a71 H71
  refine plain (y_move rfl rfl) rfl rfl rfl H71 ?_
  clear H71; intro a72 H72
  have H74 := H72.know (d := 65) (v := .bool true) rfl (congrArg Value.bool (decide_eq_true (rfl)))
  clear H72
  refine plain (y_move rfl rfl) rfl rfl rfl H74 ?_
  clear H74; intro a75 H75
  refine plain (y_move rfl rfl) rfl rfl rfl H75 ?_
  clear H75; intro a76 H76
  refine plain (y_eql rfl rfl rfl) rfl rfl rfl H76 ?_
  clear H76; intro a77 H77
  refine plain (y_pick_t rfl rfl rfl) rfl rfl rfl H77 ?_
  clear H77; intro a78 H78
  refine plain (y_move rfl rfl) rfl rfl rfl H78 ?_
  clear H78; intro a79 H79
  have H81 := H79.know (d := 70) (v := .bool true) rfl (congrArg Value.bool (decide_eq_true (rfl)))
  clear H79
  refine plain (y_loadAB rfl z_agg35 z_size35 rfl (by repeat (first | exact Mh | apply Mt)) (q_ld_c4b32b32_0_68 (by first | assumption | exact Note.readBid_len | exact Note.readReceipt_len.1 | exact Note.readReceipt_len.2) (by first | assumption | exact Note.readBid_len | exact Note.readReceipt_len.1 | exact Note.readReceipt_len.2)) (q_len_c4b32b32 (by first | assumption | exact Note.readBid_len | exact Note.readReceipt_len.1 | exact Note.readReceipt_len.2) (by first | assumption | exact Note.readBid_len | exact Note.readReceipt_len.1 | exact Note.readReceipt_len.2))) rfl rfl rfl H81 ?_
  clear H81; intro a82 H82
  refine plain (y_loadAB rfl z_agg35 z_size35 rfl (by repeat (first | exact Mh | apply Mt)) (q_ld_c4b32b32_0_68 (by first | assumption | exact Note.readBid_len | exact Note.readReceipt_len.1 | exact Note.readReceipt_len.2) (by first | assumption | exact Note.readBid_len | exact Note.readReceipt_len.1 | exact Note.readReceipt_len.2)) (q_len_c4b32b32 (by first | assumption | exact Note.readBid_len | exact Note.readReceipt_len.1 | exact Note.readReceipt_len.2) (by first | assumption | exact Note.readBid_len | exact Note.readReceipt_len.1 | exact Note.readReceipt_len.2))) rfl rfl rfl H82 ?_
  clear H82; intro a83 H83
  refine plain (y_teql rfl (by kernel_rfl) rfl rfl (eqr_Receipt (Note.readReceipt s).1 (Note.readReceipt s).1 Note.readReceipt_len.1 Note.readReceipt_len.1 Note.readReceipt_len.2 Note.readReceipt_len.2)) rfl rfl rfl H83 ?_
  clear H83; intro a84 H84
  refine plain (y_pick_t rfl rfl rfl) rfl rfl rfl H84 ?_
  clear H84; intro a85 H85
  refine plain (y_move rfl rfl) rfl rfl rfl H85 ?_
  clear H85; intro a86 H86
  have H88 := H86.know (d := 75) (v := .bool true) rfl (congrArg Value.bool (decide_eq_true (rfl)))
  clear H86
  refine plain (y_move rfl rfl) rfl rfl rfl H88 ?_
  clear H88; intro a89 H89
  refine plain (y_move rfl rfl) rfl rfl rfl H89 ?_
  clear H89; intro a90 H90
  refine plain (y_eql rfl rfl rfl) rfl rfl rfl H90 ?_
  clear H90; intro a91 H91
  refine plain (y_pick_t rfl rfl rfl) rfl rfl rfl H91 ?_
  clear H91; intro a92 H92
  refine plain (y_move rfl rfl) rfl rfl rfl H92 ?_
  clear H92; intro a93 H93
  have H95 := H93.know (d := 80) (v := .bool true) rfl (congrArg Value.bool (decide_eq_true (rfl)))
  clear H93
  refine plain (y_loadAB rfl z_agg42 z_size42 rfl (by repeat (first | exact Mh | apply Mt)) q_ld_c4_0_4 q_len_c4) rfl rfl rfl H95 ?_
  clear H95; intro a96 H96
  refine plain (y_loadAB rfl z_agg42 z_size42 rfl (by repeat (first | exact Mh | apply Mt)) q_ld_c4_0_4 q_len_c4) rfl rfl rfl H96 ?_
  clear H96; intro a97 H97
  refine st_callg rfl z_call33 rfl rfl rfl rfl H97 (rbatches (Note.readBatch s).1 (Note.readBatch s).1 Abx Aby cbx cby (by have := Note.readBatch_len (s := s); omega) (by have := Note.readBatch_len (s := s); omega) (Rd.ofSep (rd_row (by repeat (first | exact Mh | apply Mt))) H97.sep) (Rd.ofSep (rd_row (by repeat (first | exact Mh | apply Mt))) H97.sep)) ?_
  clear H97; intro a98 wx98 H98
  refine plain (y_pick_t rfl rfl rfl) rfl rfl rfl H98 ?_
  clear H98; intro a99 H99
  refine plain (y_move rfl rfl) rfl rfl rfl H99 ?_
  clear H99; intro a100 H100
  have H102 := H100.know (d := 85) (v := .bool true) rfl (congrArg Value.bool (decide_eq_true (rfl)))
  clear H100
  refine plain (y_move rfl rfl) rfl rfl rfl H102 ?_
  clear H102; intro a103 H103
  refine plain (y_move rfl rfl) rfl rfl rfl H103 ?_
  clear H103; intro a104 H104
  refine plain (y_eql rfl rfl rfl) rfl rfl rfl H104 ?_
  clear H104; intro a105 H105
  refine plain (y_pick_t rfl rfl rfl) rfl rfl rfl H105 ?_
  clear H105; intro a106 H106
  refine plain (y_move rfl rfl) rfl rfl rfl H106 ?_
  clear H106; intro a107 H107
  have H109 := H107.know (d := 90) (v := .bool true) rfl (congrArg Value.bool (decide_eq_true (rfl)))
  clear H107
  refine plain (y_loadAB rfl z_agg46 z_size46 rfl (by repeat (first | exact Mh | apply Mt)) q_ld_c4_0_4 q_len_c4) rfl rfl rfl H109 ?_
  clear H109; intro a110 H110
  refine plain (y_loadAB rfl z_agg46 z_size46 rfl (by repeat (first | exact Mh | apply Mt)) q_ld_c4_0_4 q_len_c4) rfl rfl rfl H110 ?_
  clear H110; intro a111 H111
  refine plain (y_teql rfl (by kernel_rfl) rfl rfl (eqr_Item (Note.readItem s).1 (Note.readItem s).1 )) rfl rfl rfl H111 ?_
  clear H111; intro a112 H112
  refine plain (y_pick_t rfl rfl rfl) rfl rfl rfl H112 ?_
  clear H112; intro a113 H113
  refine plain (y_move rfl rfl) rfl rfl rfl H113 ?_
  clear H113; intro a114 H114
  have H116 := H114.know (d := 95) (v := .bool true) rfl (congrArg Value.bool (decide_eq_true (rfl)))
  clear H114
  refine plain (y_move rfl rfl) rfl rfl rfl H116 ?_
  clear H116; intro a117 H117
  refine plain (y_move rfl rfl) rfl rfl rfl H117 ?_
  clear H117; intro a118 H118
  refine plain (y_eql rfl rfl rfl) rfl rfl rfl H118 ?_
  clear H118; intro a119 H119
  refine plain (y_pick_t rfl rfl rfl) rfl rfl rfl H119 ?_
  clear H119; intro a120 H120
  refine plain (y_assign rfl rfl) rfl rfl rfl H120 ?_
  clear H120; intro a121 H121
  refine fin ?_
  refine then_n ?_
  refine wp_ret ?_
  -- return 1
  refine ret1 rfl H121 rfl ?_
  exact ⟨_, [], rfl, ⟨congrArg Value.bool (decide_eq_true rfl), rfl⟩, H121.sep.sub (List.nil_sublist _)⟩

end Go.Proofs.YtnnhnnhdoipbaaaDoor.N_L2
