/- Part of a proof about given Go functions: contracts of functions, or plain laws. -/
import Derived.Test.YtnnhnnhdoipbaaaDoorNoteV
import Derived.Test.YtnnhnnhdoipbaaaDoorSxI
import Derived.Test.YtnnhnnhdoipbaaaDoorProg
import Derived.Test.YtnnhnnhdoipbaaaDoorW1
import Derived.Test.YtnnhnnhdoipbaaaDoorW2
set_option linter.unusedVariables false
set_option linter.unusedSimpArgs false
namespace Go.Proofs.YtnnhnnhdoipbaaaDoor.N_RefB
open Go.Sx Go.RowKit Go.Proofs.YtnnhnnhdoipbaaaDoor.N_Block Go.Proofs.YtnnhnnhdoipbaaaDoor.N_Sum Go.Proofs.YtnnhnnhdoipbaaaDoor.N_Ref Go.Proofs.YtnnhnnhdoipbaaaDoor.N_RSum Go.Proofs.YtnnhnnhdoipbaaaDoor.N_Leaf Go.Proofs.YtnnhnnhdoipbaaaDoor.N_Num Go.Proofs.YtnnhnnhdoipbaaaDoor.N_Key Go.Proofs.YtnnhnnhdoipbaaaDoor.N_Ref Go.Proofs.YtnnhnnhdoipbaaaDoor.N_RSum Go.Proofs.YtnnhnnhdoipbaaaDoor.N_Tag Go.Proofs.YtnnhnnhdoipbaaaDoor.N_Read Go.Proofs.YtnnhnnhdoipbaaaDoor.N_Lay Go.Proofs.YtnnhnnhdoipbaaaDoor.N_Eq Go.Proofs.YtnnhnnhdoipbaaaDoor.N_Ref0

theorem z_field25_0 : fieldB Tryd.prog 25 0 = some 0 := by kernel_rfl
theorem z_agg3 : aggB Tryd.prog 3 = some false := by kernel_rfl
theorem q_ix_c4b32_0 {a0 a1 a2 a3 : Value} {t4 : List UInt8} : (a0 :: a1 :: a2 :: a3 :: t4.map u8)[0]? = some a0 := ix_0
theorem z_call45 : callB Tryd.prog 45 = true := by kernel_rfl
theorem z_field25_1 : fieldB Tryd.prog 25 1 = some 1 := by kernel_rfl
theorem q_ix_c4b32_1 {a0 a1 a2 a3 : Value} {t4 : List UInt8} : (a0 :: a1 :: a2 :: a3 :: t4.map u8)[1]? = some a1 := (ix_c (o := 0) ix_0)
theorem z_field25_2 : fieldB Tryd.prog 25 2 = some 2 := by kernel_rfl
theorem q_ix_c4b32_2 {a0 a1 a2 a3 : Value} {t4 : List UInt8} : (a0 :: a1 :: a2 :: a3 :: t4.map u8)[2]? = some a2 := (ix_c (o := 1) (ix_c (o := 0) ix_0))
theorem z_field25_3 : fieldB Tryd.prog 25 3 = some 3 := by kernel_rfl
theorem q_ix_c4b32_3 {a0 a1 a2 a3 : Value} {t4 : List UInt8} : (a0 :: a1 :: a2 :: a3 :: t4.map u8)[3]? = some a3 := (ix_c (o := 2) (ix_c (o := 1) (ix_c (o := 0) ix_0)))
theorem z_agg25 : aggB Tryd.prog 25 = some true := by kernel_rfl
theorem z_size25 : sizeB Tryd.prog 25 = some 36 := by kernel_rfl
theorem q_ld_c4b32_0_36 {a0 a1 a2 a3 : Value} {t4 : List UInt8} (h4 : t4.length = 32) : ((a0 :: a1 :: a2 :: a3 :: t4.map u8).drop 0).take 36 = a0 :: a1 :: a2 :: a3 :: t4.map u8 := (ld_a (len_c (n := 35) (len_c (n := 34) (len_c (n := 33) (len_c (n := 32) (len_e (k := 32) h4))))))
theorem q_len_c4b32 {a0 a1 a2 a3 : Value} {t4 : List UInt8} (h4 : t4.length = 32) : (a0 :: a1 :: a2 :: a3 :: t4.map u8).length = 36 := (len_c (n := 35) (len_c (n := 34) (len_c (n := 33) (len_c (n := 32) (len_e (k := 32) h4)))))
theorem z_call37 : callB Tryd.prog 37 = true := by kernel_rfl
theorem z_field25_4 : fieldB Tryd.prog 25 4 = some 4 := by kernel_rfl
theorem z_agg23 : aggB Tryd.prog 23 = some true := by kernel_rfl
theorem z_size23 : sizeB Tryd.prog 23 = some 32 := by kernel_rfl
theorem q_ld_c4b32_4_32 {a0 a1 a2 a3 : Value} {t4 : List UInt8} (h4 : t4.length = 32) : ((a0 :: a1 :: a2 :: a3 :: t4.map u8).drop 4).take 32 = t4.map u8 := (ld_c (o := 3) (ld_c (o := 2) (ld_c (o := 1) (ld_c (o := 0) (ld_a (len_e (k := 32) h4))))))
theorem q_len_b32 {t0 : List UInt8} (h0 : t0.length = 32) : (t0.map u8).length = 32 := (len_e (k := 32) h0)
theorem z_call39 : callB Tryd.prog 39 = true := by kernel_rfl
theorem z_call40 : callB Tryd.prog 40 = true := by kernel_rfl
theorem z_size9 : sizeB Tryd.prog 9 = some 1 := by kernel_rfl
theorem z_zero9 : zeroL Tryd.prog 9 = some ([.string ⟨#[]⟩]) := by kernel_rfl
theorem z_call38 : callB Tryd.prog 38 = true := by kernel_rfl
theorem z_zeroN25 : zeroL Tryd.prog 25 = some ((.int .i64 0 :: (.int .i64 0 :: (.int .i64 0 :: (.int .i64 0 :: (List.replicate 32 (0 : UInt8)).map u8))))) := by kernel_rfl
theorem z_places25 : placesB Tryd.prog 25 = some [(0, 1), (1, 1), (2, 1), (3, 1), (4, 32)] := by kernel_rfl
theorem q_one_c4b32 {a0 a1 a2 a3 : Value} {t4 : List UInt8} (o0 : a0.oneCell' = true) (o1 : a1.oneCell' = true) (o2 : a2.oneCell' = true) (o3 : a3.oneCell' = true) : (a0 :: a1 :: a2 :: a3 :: t4.map u8).all (·.oneCell') = true := (one_c o0 (one_c o1 (one_c o2 (one_c o3 (one_u8 _)))))
theorem q_spl_c4b32_0_c4b32 {a0 a1 a2 a3 : Value} {t4 : List UInt8} {b0 b1 b2 b3 : Value} {s4 : List UInt8} (h4 : t4.length = 32) (g4 : s4.length = 32) : spl (a0 :: a1 :: a2 :: a3 :: t4.map u8) 0 (b0 :: b1 :: b2 :: b3 :: s4.map u8) = b0 :: b1 :: b2 :: b3 :: s4.map u8 := (spl_a (z := 36) (len_c (n := 35) (len_c (n := 34) (len_c (n := 33) (len_c (n := 32) (len_e (k := 32) h4))))) (len_c (n := 35) (len_c (n := 34) (len_c (n := 33) (len_c (n := 32) (len_e (k := 32) g4))))))
theorem z_zeroN23 : zeroL Tryd.prog 23 = some ((List.replicate 32 (0 : UInt8)).map u8) := by kernel_rfl
theorem q_one_b32 {t0 : List UInt8} : (t0.map u8).all (·.oneCell') = true := (one_u8 _)
theorem q_spl_b32_0_b32 {t0 : List UInt8} {s0 : List UInt8} (h0 : t0.length = 32) (g0 : s0.length = 32) : spl (t0.map u8) 0 (s0.map u8) = s0.map u8 := (spl_a (z := 32) (len_e (k := 32) h0) (len_e (k := 32) g0))
theorem q_ld_b32_0_32 {t0 : List UInt8} (h0 : t0.length = 32) : ((t0.map u8).drop 0).take 32 = t0.map u8 := (ld_a (len_e (k := 32) h0))
theorem q_spl_c4b32_4_b32 {a0 a1 a2 a3 : Value} {t4 : List UInt8} {s0 : List UInt8} (h4 : t4.length = 32) (g0 : s0.length = 32) : spl (a0 :: a1 :: a2 :: a3 :: t4.map u8) 4 (s0.map u8) = a0 :: a1 :: a2 :: a3 :: s0.map u8 := (spl_c (o := 3) (spl_c (o := 2) (spl_c (o := 1) (spl_c (o := 0) (spl_a (z := 32) (len_e (k := 32) h4) (len_e (k := 32) g0))))))
theorem z_call52 : callB Tryd.prog 52 = true := by kernel_rfl
theorem z_call53 : callB Tryd.prog 53 = true := by kernel_rfl
theorem z_agg9 : aggB Tryd.prog 9 = some false := by kernel_rfl
theorem z_size3 : sizeB Tryd.prog 3 = some 1 := by kernel_rfl
theorem z_call54 : callB Tryd.prog 54 = true := by kernel_rfl
theorem q_spl_c4b32_0_c1 {a0 a1 a2 a3 : Value} {t4 : List UInt8} {b0 : Value} : spl (a0 :: a1 :: a2 :: a3 :: t4.map u8) 0 (b0 :: []) = b0 :: a1 :: a2 :: a3 :: t4.map u8 := spl_0
theorem q_spl_c4b32_1_c1 {a0 a1 a2 a3 : Value} {t4 : List UInt8} {b0 : Value} : spl (a0 :: a1 :: a2 :: a3 :: t4.map u8) 1 (b0 :: []) = a0 :: b0 :: a2 :: a3 :: t4.map u8 := (spl_c (o := 0) spl_0)
theorem q_spl_c4b32_2_c1 {a0 a1 a2 a3 : Value} {t4 : List UInt8} {b0 : Value} : spl (a0 :: a1 :: a2 :: a3 :: t4.map u8) 2 (b0 :: []) = a0 :: a1 :: b0 :: a3 :: t4.map u8 := (spl_c (o := 1) (spl_c (o := 0) spl_0))
theorem q_spl_c4b32_3_c1 {a0 a1 a2 a3 : Value} {t4 : List UInt8} {b0 : Value} : spl (a0 :: a1 :: a2 :: a3 :: t4.map u8) 3 (b0 :: []) = a0 :: a1 :: a2 :: b0 :: t4.map u8 := (spl_c (o := 2) (spl_c (o := 1) (spl_c (o := 0) spl_0)))

set_option maxRecDepth 100000 in
set_option maxHeartbeats 1000000 in
theorem rbid (b : Note.Bid) (wf : Note.Bid.Wf b) (w : World) : Calls Tryd.prog 37 #[.agg (Note.Bid.cells b).toArray] w (Gives (.bool b.ok) [] w) := by
  have lz32 : (List.replicate 32 (0 : UInt8)).length = 32 := List.length_replicate
  have lz0 := wf.tag
  refine enterL (args := [.agg (Note.Bid.cells b).toArray]) Tryd.func37 rfl rfl (l := []) (Sep.refl _) ?_
  intro a0 H0
  refine wp_seq ?_
  refine reg ?_
  refine st_box rfl rfl (agg_cells _) rfl rfl rfl H0 ?_
  clear H0; intro b1 a1 wx1 H1
  refine plain (y_assign rfl rfl) rfl rfl rfl H1 ?_
  clear H1; intro a2 H2
  refine fin ?_
  refine then_n ?_
  refine wp_seq ?_
  refine reg ?_
  refine plain (y_fieldB rfl z_field25_0 rfl (by first | (simp only [Nat.zero_add, Nat.add_zero, Nat.reduceAdd]; rfl) | rfl)) rfl rfl rfl H2 ?_
  clear H2; intro a3 H3
  refine plain (y_loadB rfl z_agg3 rfl (by repeat (first | exact Mh | apply Mt)) q_ix_c4b32_0) rfl rfl rfl H3 ?_
  clear H3; intro a4 H4
  refine st_callg rfl z_call45 rfl rfl rfl rfl H4 (rwithin _ _ _) ?_
  clear H4; intro a5 wx5 H5
  refine plain (y_move rfl rfl) rfl rfl rfl H5 ?_
  clear H5; intro a6 H6
  refine Sx.part (d := 6) H6 rfl (fun hg7 => ?_) (fun hg7 => ?_)
  · first
    | fail
    | skip
      clear H6; intro H8
      try simp only [decide_eq_true_eq, decide_eq_false_iff_not, Bool.not_eq_true', Bool.not_eq_false', Bool.and_eq_true, Bool.not_eq_true, Bool.not_eq_false] at hg7
      refine plain (y_fieldB rfl z_field25_1 rfl (by first | (simp only [Nat.zero_add, Nat.add_zero, Nat.reduceAdd]; rfl) | rfl)) rfl rfl rfl H8 ?_
      clear H8; intro a9 H9
      refine plain (y_loadB rfl z_agg3 rfl (by repeat (first | exact Mh | apply Mt)) q_ix_c4b32_1) rfl rfl rfl H9 ?_
      clear H9; intro a10 H10
      refine st_callg rfl z_call45 rfl rfl rfl rfl H10 (rwithin _ _ _) ?_
      clear H10; intro a11 wx11 H11
      refine plain (y_pick_t rfl rfl rfl) rfl rfl rfl H11 ?_
      clear H11; intro a12 H12
      refine plain (y_move rfl rfl) rfl rfl rfl H12 ?_
      clear H12; intro a13 H13
      refine Sx.part (d := 11) H13 rfl (fun hg14 => ?_) (fun hg14 => ?_)
      · first
        | fail
        | skip
          clear H13; intro H15
          try simp only [decide_eq_true_eq, decide_eq_false_iff_not, Bool.not_eq_true', Bool.not_eq_false', Bool.and_eq_true, Bool.not_eq_true, Bool.not_eq_false] at hg14
          refine plain (y_fieldB rfl z_field25_2 rfl (by first | (simp only [Nat.zero_add, Nat.add_zero, Nat.reduceAdd]; rfl) | rfl)) rfl rfl rfl H15 ?_
          clear H15; intro a16 H16
          refine plain (y_loadB rfl z_agg3 rfl (by repeat (first | exact Mh | apply Mt)) q_ix_c4b32_2) rfl rfl rfl H16 ?_
          clear H16; intro a17 H17
          refine st_callg rfl z_call45 rfl rfl rfl rfl H17 (rwithin _ _ _) ?_
          clear H17; intro a18 wx18 H18
          refine plain (y_pick_t rfl rfl rfl) rfl rfl rfl H18 ?_
          clear H18; intro a19 H19
          refine plain (y_move rfl rfl) rfl rfl rfl H19 ?_
          clear H19; intro a20 H20
          refine Sx.part (d := 16) H20 rfl (fun hg21 => ?_) (fun hg21 => ?_)
          · first
            | fail
            | skip
              clear H20; intro H22
              try simp only [decide_eq_true_eq, decide_eq_false_iff_not, Bool.not_eq_true', Bool.not_eq_false', Bool.and_eq_true, Bool.not_eq_true, Bool.not_eq_false] at hg21
              refine plain (y_fieldB rfl z_field25_3 rfl (by first | (simp only [Nat.zero_add, Nat.add_zero, Nat.reduceAdd]; rfl) | rfl)) rfl rfl rfl H22 ?_
              clear H22; intro a23 H23
              refine plain (y_loadB rfl z_agg3 rfl (by repeat (first | exact Mh | apply Mt)) q_ix_c4b32_3) rfl rfl rfl H23 ?_
              clear H23; intro a24 H24
              refine st_callg rfl z_call45 rfl rfl rfl rfl H24 (rwithin _ _ _) ?_
              clear H24; intro a25 wx25 H25
              refine plain (y_pick_t rfl rfl rfl) rfl rfl rfl H25 ?_
              clear H25; intro a26 H26
              refine plain (y_assign rfl rfl) rfl rfl rfl H26 ?_
              clear H26; intro a27 H27
              refine fin ?_
              refine then_n ?_
              refine wp_ret ?_
              -- return 1
              refine ret1 rfl H27 rfl ?_
              refine ⟨_, [], rfl, ⟨?_, rfl⟩, H27.sep.sub (List.nil_sublist _)⟩
              clear H27
              rw [Note.Bid.ok_is]
              first | exact congrArg Value.bool (decide_eq_decide.2 (by omega)) | exact congrArg Value.bool (decide_eq_false (by omega)).symm | exact congrArg Value.bool (decide_eq_true (by omega)).symm
          · first
            | fail
            | skip
              clear H20; intro H28
              try simp only [decide_eq_true_eq, decide_eq_false_iff_not, Bool.not_eq_true', Bool.not_eq_false', Bool.and_eq_true, Bool.not_eq_true, Bool.not_eq_false] at hg21
              refine skip rfl rfl rfl H28 ?_
              clear H28; intro a29 H29
              refine skip rfl rfl rfl H29 ?_
              clear H29; intro a30 H30
              refine skip rfl rfl rfl H30 ?_
              clear H30; intro a31 H31
              refine plain (y_pick_f rfl rfl rfl) rfl rfl rfl H31 ?_
              clear H31; intro a32 H32
              refine plain (y_assign rfl rfl) rfl rfl rfl H32 ?_
              clear H32; intro a33 H33
              refine fin ?_
              refine then_n ?_
              refine wp_ret ?_
              -- return 2
              refine ret1 rfl H33 rfl ?_
              refine ⟨_, [], rfl, ⟨?_, rfl⟩, H33.sep.sub (List.nil_sublist _)⟩
              clear H33
              rw [Note.Bid.ok_is]
              first | exact congrArg Value.bool (decide_eq_decide.2 (by omega)) | exact congrArg Value.bool (decide_eq_false (by omega)).symm | exact congrArg Value.bool (decide_eq_true (by omega)).symm
      · first
        | fail
        | skip
          clear H13; intro H34
          try simp only [decide_eq_true_eq, decide_eq_false_iff_not, Bool.not_eq_true', Bool.not_eq_false', Bool.and_eq_true, Bool.not_eq_true, Bool.not_eq_false] at hg14
          refine skip rfl rfl rfl H34 ?_
          clear H34; intro a35 H35
          refine skip rfl rfl rfl H35 ?_
          clear H35; intro a36 H36
          refine skip rfl rfl rfl H36 ?_
          clear H36; intro a37 H37
          refine plain (y_pick_f rfl rfl rfl) rfl rfl rfl H37 ?_
          clear H37; intro a38 H38
          refine plain (y_move rfl rfl) rfl rfl rfl H38 ?_
          clear H38; intro a39 H39
          refine skip rfl rfl rfl H39 ?_
          clear H39; intro a40 H40
          refine skip rfl rfl rfl H40 ?_
          clear H40; intro a41 H41
          refine skip rfl rfl rfl H41 ?_
          clear H41; intro a42 H42
          refine plain (y_pick_f rfl rfl rfl) rfl rfl rfl H42 ?_
          clear H42; intro a43 H43
          refine plain (y_assign rfl rfl) rfl rfl rfl H43 ?_
          clear H43; intro a44 H44
          refine fin ?_
          refine then_n ?_
          refine wp_ret ?_
          -- return 3
          refine ret1 rfl H44 rfl ?_
          refine ⟨_, [], rfl, ⟨?_, rfl⟩, H44.sep.sub (List.nil_sublist _)⟩
          clear H44
          rw [Note.Bid.ok_is]
          first | exact congrArg Value.bool (decide_eq_decide.2 (by omega)) | exact congrArg Value.bool (decide_eq_false (by omega)).symm | exact congrArg Value.bool (decide_eq_true (by omega)).symm
  · first
    | fail
    | skip
      clear H6; intro H45
      try simp only [decide_eq_true_eq, decide_eq_false_iff_not, Bool.not_eq_true', Bool.not_eq_false', Bool.and_eq_true, Bool.not_eq_true, Bool.not_eq_false] at hg7
      refine skip rfl rfl rfl H45 ?_
      clear H45; intro a46 H46
      refine skip rfl rfl rfl H46 ?_
      clear H46; intro a47 H47
      refine skip rfl rfl rfl H47 ?_
      clear H47; intro a48 H48
      refine plain (y_pick_f rfl rfl rfl) rfl rfl rfl H48 ?_
      clear H48; intro a49 H49
      refine plain (y_move rfl rfl) rfl rfl rfl H49 ?_
      clear H49; intro a50 H50
      refine skip rfl rfl rfl H50 ?_
      clear H50; intro a51 H51
      refine skip rfl rfl rfl H51 ?_
      clear H51; intro a52 H52
      refine skip rfl rfl rfl H52 ?_
      clear H52; intro a53 H53
      refine plain (y_pick_f rfl rfl rfl) rfl rfl rfl H53 ?_
      clear H53; intro a54 H54
      refine plain (y_move rfl rfl) rfl rfl rfl H54 ?_
      clear H54; intro a55 H55
      refine skip rfl rfl rfl H55 ?_
      clear H55; intro a56 H56
      refine skip rfl rfl rfl H56 ?_
      clear H56; intro a57 H57
      refine skip rfl rfl rfl H57 ?_
      clear H57; intro a58 H58
      refine plain (y_pick_f rfl rfl rfl) rfl rfl rfl H58 ?_
      clear H58; intro a59 H59
      refine plain (y_assign rfl rfl) rfl rfl rfl H59 ?_
      clear H59; intro a60 H60
      refine fin ?_
      refine then_n ?_
      refine wp_ret ?_
      -- return 4
      refine ret1 rfl H60 rfl ?_
      refine ⟨_, [], rfl, ⟨?_, rfl⟩, H60.sep.sub (List.nil_sublist _)⟩
      clear H60
      rw [Note.Bid.ok_is]
      first | exact congrArg Value.bool (decide_eq_decide.2 (by omega)) | exact congrArg Value.bool (decide_eq_false (by omega)).symm | exact congrArg Value.bool (decide_eq_true (by omega)).symm
set_option maxRecDepth 100000 in
set_option maxHeartbeats 2000000 in
theorem rreadbid (s : List UInt8) (hs : s.length ≤ 140737488351232) {w : World}  : Calls Tryd.prog 27 #[str s] w (Gives (.tuple #[.agg (Note.Bid.cells (Note.readBid s).1).toArray, .int .i64 (Note.readBid s).2]) [] w) := by
  have hwl := Note.whole_len (s := s)
  have hLb := Note.whole_le (s := s)
  have lz32 : (List.replicate 32 (0 : UInt8)).length = 32 := List.length_replicate
  refine enterL (args := [str s]) Tryd.func27 rfl rfl (l := []) (Sep.refl _) ?_
  intro a0 H0
  refine wp_seq ?_
  refine reg ?_
  refine st_alloc rfl z_zeroN25 rfl rfl rfl H0 ?_
  clear H0; intro b1 a1 wx1 H1
  refine plain (y_assign rfl rfl) rfl rfl rfl H1 ?_
  clear H1; intro a2 H2
  refine fin ?_
  refine then_n ?_
  refine wp_seq ?_
  refine reg ?_
  refine plain (y_move rfl rfl) rfl rfl rfl H2 ?_
  clear H2; intro a3 H3
  refine st_call rfl z_call52 rfl rfl rfl rfl H3 (rwhole s (by omega) _) ?_
  clear H3; intro v4 l4 a4 wx4 hf4 H4
  obtain ⟨vt4, rfl, rfl⟩ := hf4
  simp only [List.cons_append, List.nil_append] at H4
  obtain ⟨ArL, crL, hvrL, hRrL, hmrL⟩ := row_shape (v := vt4) H4.sep (by repeat (first | exact Mh | apply Mt))
  subst hvrL
  refine plain (y_move rfl rfl) rfl rfl rfl H4 ?_
  clear H4; intro a5 H5
  refine plain (y_extract rfl rfl rfl) rfl rfl rfl H5 ?_
  clear H5; intro a6 H6
  refine plain (y_extract rfl rfl rfl) rfl rfl rfl H6 ?_
  clear H6; intro a7 H7
  refine plain (y_assign rfl rfl) rfl rfl rfl H7 ?_
  clear H7; intro a8 H8
  refine plain (y_assign rfl rfl) rfl rfl rfl H8 ?_
  clear H8; intro a9 H9
  refine fin ?_
  refine then_n ?_
  refine wp_seq ?_
  refine reg ?_
  refine plain (y_move rfl rfl) rfl rfl rfl H9 ?_
  clear H9; intro a10 H10
  refine st_call rfl z_call53 rfl rfl rfl rfl H10 (rnumbers (Note.whole s).1 Note.whole_le 4 (by decide) _ _ _ rfl (by have := Note.whole_len (s := s); omega) (Rd.ofSep (rd_row (by repeat (first | exact Mh | apply Mt))) H10.sep)) ?_
  clear H10; intro v11 l11 a11 wx11 hf11 H11
  rcases hf11 with ⟨vn, ns, hfi, rfl, rfl, hnl, hnr⟩ | ⟨hfi, rfl, rfl⟩
  · skip
    obtain ⟨n0, n1, n2, n3, rfl⟩ := Note.four hnl
    simp only [List.cons_append, List.nil_append] at H11
    obtain ⟨An, cn, hvn, hRn, hmn⟩ := row_shape (v := vn) H11.sep (List.Mem.head _)
    subst hvn
    refine plain (y_move rfl rfl) rfl rfl rfl H11 ?_
    clear H11; intro a12 H12
    refine plain (y_extract rfl rfl rfl) rfl rfl rfl H12 ?_
    clear H12; intro a13 H13
    refine plain (y_extract rfl rfl rfl) rfl rfl rfl H13 ?_
    clear H13; intro a14 H14
    refine plain (y_assign rfl rfl) rfl rfl rfl H14 ?_
    clear H14; intro a15 H15
    refine plain (y_assign rfl rfl) rfl rfl rfl H15 ?_
    clear H15; intro a16 H16
    refine fin ?_
    refine then_n ?_
    refine wp_seq ?_
    refine wp_seq ?_
    refine reg ?_
    refine plain (y_move rfl rfl) rfl rfl rfl H16 ?_
    clear H16; intro a17 H17
    refine plain (y_neq rfl rfl rfl) rfl rfl rfl H17 ?_
    clear H17; intro a18 H18
    refine plain (y_move rfl rfl) rfl rfl rfl H18 ?_
    clear H18; intro a19 H19
    refine Sx.part (d := 21) H19 rfl (fun hg20 => ?_) (fun hg20 => ?_)
    · first
      | fail
      | skip
        clear H19; intro H21
        try simp only [decide_eq_true_eq, decide_eq_false_iff_not, Bool.not_eq_true', Bool.not_eq_false', Bool.and_eq_true, Bool.not_eq_true, Bool.not_eq_false] at hg20
        refine skip rfl rfl rfl H21 ?_
        clear H21; intro a22 H22
        refine skip rfl rfl rfl H22 ?_
        clear H22; intro a23 H23
        refine plain (y_pick_t rfl rfl rfl) rfl rfl rfl H23 ?_
        clear H23; intro a24 H24
        refine plain (y_move rfl rfl) rfl rfl rfl H24 ?_
        clear H24; intro a25 H25
        refine skip rfl rfl rfl H25 ?_
        clear H25; intro a26 H26
        refine skip rfl rfl rfl H26 ?_
        clear H26; intro a27 H27
        refine skip rfl rfl rfl H27 ?_
        clear H27; intro a28 H28
        refine plain (y_pick_t rfl rfl rfl) rfl rfl rfl H28 ?_
        clear H28; intro a29 H29
        refine plain (y_move rfl rfl) rfl rfl rfl H29 ?_
        clear H29; intro a30 H30
        refine skip rfl rfl rfl H30 ?_
        clear H30; intro a31 H31
        refine skip rfl rfl rfl H31 ?_
        clear H31; intro a32 H32
        refine skip rfl rfl rfl H32 ?_
        clear H32; intro a33 H33
        refine skip rfl rfl rfl H33 ?_
        clear H33; intro a34 H34
        refine skip rfl rfl rfl H34 ?_
        clear H34; intro a35 H35
        refine plain (y_pick_t rfl rfl rfl) rfl rfl rfl H35 ?_
        clear H35; intro a36 H36
        refine fin ?_
        refine then_n ?_
        refine cnd_t H36 rfl ?_
        refine wp_seq ?_
        refine reg ?_
        refine plain (y_build rfl z_zeroN25 z_places25 rfl lay_n) rfl rfl rfl H36 ?_
        clear H36; intro a38 H38
        refine st_storeN rfl z_size25 rfl rfl (agg_cells _) (by repeat (first | exact Uh | apply Ut)) (q_one_c4b32 rfl rfl rfl rfl) (q_len_c4b32 (by assumption)) (q_len_c4b32 (by assumption)) (q_spl_c4b32_0_c4b32 (by assumption) (by assumption)) (by decide) rfl rfl H38 ?_
        clear H38; intro wx39 H39
        refine plain (y_assign rfl rfl) rfl rfl rfl H39 ?_
        clear H39; intro a40 H40
        refine fin ?_
        refine then_n ?_
        refine wp_ret ?_
        refine then_r ?_
        -- return 1
        refine retct rfl H40 rfl z_agg25 z_size25 (by repeat (first | exact Mh | apply Mt)) (q_len_c4b32 (by assumption)) rfl ?_
        refine ⟨_, [], rfl, ⟨?_, rfl⟩, H40.sep.sub (List.nil_sublist _)⟩
        first | (rw [Note.readBid_none (by first | exact Note.fields_none2 hfi | exact Note.fields_none1 (by assumption))]; rfl) | (rw [Note.readBid_bad (Note.fields_some (by assumption) hfi) (by rintro ⟨h1, h2, h3⟩; simp only [List.length_drop] at h1; omega)]; rfl) | (rw [Note.readBid_bad hfs (by rintro ⟨h1, h2, h3⟩; exact Bool.noConfusion (h3.symm.trans (show (Note.bidOf [n0, n1, n2, n3] ((Note.whole s).1.drop 4)).ok = false by assumption)))]; rfl) | (rw [Note.readBid_good hfs ⟨by simp only [List.length_drop]; omega, hl32, by assumption⟩]; rfl)
    · first
      | fail
      | skip
        clear H19; intro H41
        try simp only [decide_eq_true_eq, decide_eq_false_iff_not, Bool.not_eq_true', Bool.not_eq_false', Bool.and_eq_true, Bool.not_eq_true, Bool.not_eq_false] at hg20
        refine plain (y_move rfl rfl) rfl rfl rfl H41 ?_
        clear H41; intro a42 H42
        refine plain (y_not rfl rfl) rfl rfl rfl H42 ?_
        clear H42; intro a43 H43
        refine plain (y_pick_f rfl rfl rfl) rfl rfl rfl H43 ?_
        clear H43; intro a44 H44
        refine plain (y_move rfl rfl) rfl rfl rfl H44 ?_
        clear H44; intro a45 H45
        refine plain (y_move rfl rfl) rfl rfl rfl H45 ?_
        clear H45; intro a46 H46
        refine plain (y_len rfl Tryd.underlying49 rfl) rfl rfl rfl H46 ?_
        clear H46; intro a47 H47
        refine plain (y_neq rfl rfl rfl) rfl rfl rfl H47 ?_
        clear H47; intro a48 H48
        refine plain (y_pick_f rfl rfl rfl) rfl rfl rfl H48 ?_
        clear H48; intro a49 H49
        refine plain (y_move rfl rfl) rfl rfl rfl H49 ?_
        clear H49; intro a50 H50
        refine Sx.part (d := 30) H50 rfl (fun hg51 => ?_) (fun hg51 => ?_)
        · first
          | fail
          | skip
            clear H50; intro H52
            try simp only [decide_eq_true_eq, decide_eq_false_iff_not, Bool.not_eq_true', Bool.not_eq_false', Bool.and_eq_true, Bool.not_eq_true, Bool.not_eq_false] at hg51
            refine skip rfl rfl rfl H52 ?_
            clear H52; intro a53 H53
            refine skip rfl rfl rfl H53 ?_
            clear H53; intro a54 H54
            refine skip rfl rfl rfl H54 ?_
            clear H54; intro a55 H55
            refine skip rfl rfl rfl H55 ?_
            clear H55; intro a56 H56
            refine skip rfl rfl rfl H56 ?_
            clear H56; intro a57 H57
            refine plain (y_pick_t rfl rfl rfl) rfl rfl rfl H57 ?_
            clear H57; intro a58 H58
            refine fin ?_
            refine then_n ?_
            refine cnd_t H58 rfl ?_
            refine wp_seq ?_
            refine reg ?_
            refine plain (y_build rfl z_zeroN25 z_places25 rfl lay_n) rfl rfl rfl H58 ?_
            clear H58; intro a60 H60
            refine st_storeN rfl z_size25 rfl rfl (agg_cells _) (by repeat (first | exact Uh | apply Ut)) (q_one_c4b32 rfl rfl rfl rfl) (q_len_c4b32 (by assumption)) (q_len_c4b32 (by assumption)) (q_spl_c4b32_0_c4b32 (by assumption) (by assumption)) (by decide) rfl rfl H60 ?_
            clear H60; intro wx61 H61
            refine plain (y_assign rfl rfl) rfl rfl rfl H61 ?_
            clear H61; intro a62 H62
            refine fin ?_
            refine then_n ?_
            refine wp_ret ?_
            refine then_r ?_
            -- return 2
            refine retct rfl H62 rfl z_agg25 z_size25 (by repeat (first | exact Mh | apply Mt)) (q_len_c4b32 (by assumption)) rfl ?_
            refine ⟨_, [], rfl, ⟨?_, rfl⟩, H62.sep.sub (List.nil_sublist _)⟩
            first | (rw [Note.readBid_none (by first | exact Note.fields_none2 hfi | exact Note.fields_none1 (by assumption))]; rfl) | (rw [Note.readBid_bad (Note.fields_some (by assumption) hfi) (by rintro ⟨h1, h2, h3⟩; simp only [List.length_drop] at h1; omega)]; rfl) | (rw [Note.readBid_bad hfs (by rintro ⟨h1, h2, h3⟩; exact Bool.noConfusion (h3.symm.trans (show (Note.bidOf [n0, n1, n2, n3] ((Note.whole s).1.drop 4)).ok = false by assumption)))]; rfl) | (rw [Note.readBid_good hfs ⟨by simp only [List.length_drop]; omega, hl32, by assumption⟩]; rfl)
        · first
          | fail
          | skip
            clear H50; intro H63
            try simp only [decide_eq_true_eq, decide_eq_false_iff_not, Bool.not_eq_true', Bool.not_eq_false', Bool.and_eq_true, Bool.not_eq_true, Bool.not_eq_false] at hg51
            refine plain (y_move rfl rfl) rfl rfl rfl H63 ?_
            clear H63; intro a64 H64
            refine plain (y_ixR rfl Tryd.underlying49 z_size9 rfl rfl (by omega) (by omega) (rd_row (by repeat (first | exact Mh | apply Mt))) (by rw [List.length_map]; first | omega | (simp; done))) rfl rfl rfl H64 ?_
            clear H64; intro a65 H65
            refine plain (y_loadR rfl z_agg9 rfl (rd_row (by repeat (first | exact Mh | apply Mt))) (Note.rest_at 4 0 (by omega))) rfl rfl rfl H65 ?_
            clear H65; intro a66 H66
            refine plain (y_slen rfl Tryd.underlying9 rfl) rfl rfl rfl H66 ?_
            clear H66; intro a67 H67
            refine plain (y_neq rfl rfl rfl) rfl rfl rfl H67 ?_
            clear H67; intro a68 H68
            refine plain (y_pick_f rfl rfl rfl) rfl rfl rfl H68 ?_
            clear H68; intro a69 H69
            refine fin ?_
            refine then_n ?_
            refine cnd H69 rfl (fun hc70 => ?_) (fun hc70 => ?_) -- cond 3
            · skip
              try simp only [decide_eq_true_eq, decide_eq_false_iff_not, Bool.not_eq_true', Bool.not_eq_false', Bool.and_eq_true, Bool.not_eq_true, Bool.not_eq_false] at hc70
              refine wp_seq ?_
              refine reg ?_
              refine plain (y_build rfl z_zeroN25 z_places25 rfl lay_n) rfl rfl rfl H69 ?_
              clear H69; intro a71 H71
              refine st_storeN rfl z_size25 rfl rfl (agg_cells _) (by repeat (first | exact Uh | apply Ut)) (q_one_c4b32 rfl rfl rfl rfl) (q_len_c4b32 (by assumption)) (q_len_c4b32 (by assumption)) (q_spl_c4b32_0_c4b32 (by assumption) (by assumption)) (by decide) rfl rfl H71 ?_
              clear H71; intro wx72 H72
              refine plain (y_assign rfl rfl) rfl rfl rfl H72 ?_
              clear H72; intro a73 H73
              refine fin ?_
              refine then_n ?_
              refine wp_ret ?_
              refine then_r ?_
              -- return 3
              refine retct rfl H73 rfl z_agg25 z_size25 (by repeat (first | exact Mh | apply Mt)) (q_len_c4b32 (by assumption)) rfl ?_
              refine ⟨_, [], rfl, ⟨?_, rfl⟩, H73.sep.sub (List.nil_sublist _)⟩
              first | (rw [Note.readBid_none (by first | exact Note.fields_none2 hfi | exact Note.fields_none1 (by assumption))]; rfl) | (rw [Note.readBid_bad (Note.fields_some (by assumption) hfi) (by rintro ⟨h1, h2, h3⟩; simp only [List.length_drop] at h1; omega)]; rfl) | (rw [Note.readBid_bad hfs (by rintro ⟨h1, h2, h3⟩; exact Bool.noConfusion (h3.symm.trans (show (Note.bidOf [n0, n1, n2, n3] ((Note.whole s).1.drop 4)).ok = false by assumption)))]; rfl) | (rw [Note.readBid_good hfs ⟨by simp only [List.length_drop]; omega, hl32, by assumption⟩]; rfl)
            · skip
              try simp only [decide_eq_true_eq, decide_eq_false_iff_not, Bool.not_eq_true', Bool.not_eq_false', Bool.and_eq_true, Bool.not_eq_true, Bool.not_eq_false] at hc70
              refine wp_skip ?_
              refine then_n ?_
              refine wp_seq ?_
              have hl32 : (((Note.whole s).1.drop 4).getD 0 []).length = 32 := by omega
              have hfs := Note.fields_some (by assumption) hfi
              refine hreg _ (fun _ h => h) (by kernel_rfl) H69 ?_
              clear H69; intro wx74 H74
              refine htake 0 rfl (by kernel_rfl) (y_move rfl rfl) rfl rfl rfl (fun _ h => (h.sub (by first | exact S0 | exact S1 | repeat (first | exact S1 | exact S0 | apply S2 | apply S3)))) H74 ?_
              clear H74; intro a75 H75
              refine htake 1 rfl (by kernel_rfl) (y_ixR rfl Tryd.underlying83 z_size3 rfl rfl (by omega) (by omega) (rd_row (by repeat (first | exact Mh | apply Mt))) (by rw [List.length_map]; first | omega | (simp; done))) rfl rfl rfl (fun _ h => (h.sub (by first | exact S0 | exact S1 | repeat (first | exact S1 | exact S0 | apply S2 | apply S3)))) H75 ?_
              clear H75; intro a76 H76
              refine htake 2 rfl (by kernel_rfl) (y_loadR rfl z_agg3 rfl (rd_row (by repeat (first | exact Mh | apply Mt))) rfl) rfl rfl rfl (fun _ h => (h.sub (by first | exact S0 | exact S1 | repeat (first | exact S1 | exact S0 | apply S2 | apply S3)))) H76 ?_
              clear H76; intro a77 H77
              refine htake 3 rfl (by kernel_rfl) (y_move rfl rfl) rfl rfl rfl (fun _ h => (h.sub (by first | exact S0 | exact S1 | repeat (first | exact S1 | exact S0 | apply S2 | apply S3)))) H77 ?_
              clear H77; intro a78 H78
              refine htake 4 rfl (by kernel_rfl) (y_ixR rfl Tryd.underlying83 z_size3 rfl rfl (by omega) (by omega) (rd_row (by repeat (first | exact Mh | apply Mt))) (by rw [List.length_map]; first | omega | (simp; done))) rfl rfl rfl (fun _ h => (h.sub (by first | exact S0 | exact S1 | repeat (first | exact S1 | exact S0 | apply S2 | apply S3)))) H78 ?_
              clear H78; intro a79 H79
              refine htake 5 rfl (by kernel_rfl) (y_loadR rfl z_agg3 rfl (rd_row (by repeat (first | exact Mh | apply Mt))) rfl) rfl rfl rfl (fun _ h => (h.sub (by first | exact S0 | exact S1 | repeat (first | exact S1 | exact S0 | apply S2 | apply S3)))) H79 ?_
              clear H79; intro a80 H80
              refine htake 6 rfl (by kernel_rfl) (y_move rfl rfl) rfl rfl rfl (fun _ h => (h.sub (by first | exact S0 | exact S1 | repeat (first | exact S1 | exact S0 | apply S2 | apply S3)))) H80 ?_
              clear H80; intro a81 H81
              refine htake 7 rfl (by kernel_rfl) (y_ixR rfl Tryd.underlying83 z_size3 rfl rfl (by omega) (by omega) (rd_row (by repeat (first | exact Mh | apply Mt))) (by rw [List.length_map]; first | omega | (simp; done))) rfl rfl rfl (fun _ h => (h.sub (by first | exact S0 | exact S1 | repeat (first | exact S1 | exact S0 | apply S2 | apply S3)))) H81 ?_
              clear H81; intro a82 H82
              refine htake 8 rfl (by kernel_rfl) (y_loadR rfl z_agg3 rfl (rd_row (by repeat (first | exact Mh | apply Mt))) rfl) rfl rfl rfl (fun _ h => (h.sub (by first | exact S0 | exact S1 | repeat (first | exact S1 | exact S0 | apply S2 | apply S3)))) H82 ?_
              clear H82; intro a83 H83
              refine htake 9 rfl (by kernel_rfl) (y_move rfl rfl) rfl rfl rfl (fun _ h => (h.sub (by first | exact S0 | exact S1 | repeat (first | exact S1 | exact S0 | apply S2 | apply S3)))) H83 ?_
              clear H83; intro a84 H84
              refine htake 10 rfl (by kernel_rfl) (y_ixR rfl Tryd.underlying83 z_size3 rfl rfl (by omega) (by omega) (rd_row (by repeat (first | exact Mh | apply Mt))) (by rw [List.length_map]; first | omega | (simp; done))) rfl rfl rfl (fun _ h => (h.sub (by first | exact S0 | exact S1 | repeat (first | exact S1 | exact S0 | apply S2 | apply S3)))) H84 ?_
              clear H84; intro a85 H85
              refine htake 11 rfl (by kernel_rfl) (y_loadR rfl z_agg3 rfl (rd_row (by repeat (first | exact Mh | apply Mt))) rfl) rfl rfl rfl (fun _ h => (h.sub (by first | exact S0 | exact S1 | repeat (first | exact S1 | exact S0 | apply S2 | apply S3)))) H85 ?_
              clear H85; intro a86 H86
              refine htake 12 rfl (by kernel_rfl) (y_move rfl rfl) rfl rfl rfl (fun _ h => (h.sub (by first | exact S0 | exact S1 | repeat (first | exact S1 | exact S0 | apply S2 | apply S3)))) H86 ?_
              clear H86; intro a87 H87
              refine htake 13 rfl (by kernel_rfl) (y_ixR rfl Tryd.underlying49 z_size9 rfl rfl (by omega) (by omega) (rd_row (by repeat (first | exact Mh | apply Mt))) (by rw [List.length_map]; first | omega | (simp; done))) rfl rfl rfl (fun _ h => (h.sub (by first | exact S0 | exact S1 | repeat (first | exact S1 | exact S0 | apply S2 | apply S3)))) H87 ?_
              clear H87; intro a88 H88
              refine htake 14 rfl (by kernel_rfl) (y_loadR rfl z_agg9 rfl (rd_row (by repeat (first | exact Mh | apply Mt))) (Note.rest_at 4 0 (by omega))) rfl rfl rfl (fun _ h => (h.sub (by first | exact S0 | exact S1 | repeat (first | exact S1 | exact S0 | apply S2 | apply S3)))) H88 ?_
              clear H88; intro a89 H89
              refine hgo2 15 17 rfl rfl (by kernel_rfl) ?_ ?_
              · skip
                refine st_callg rfl z_call54 rfl rfl rfl rfl H89 (rhash (((Note.whole s).1.drop 4).getD 0 []) hl32 _) ?_
                clear H89; intro a90 wx90 H90
                refine hfin (H90.sep.sub (by first | exact S0 | exact S1 | repeat (first | exact S1 | exact S0 | apply S2 | apply S3))) ?_
                refine htake 16 rfl (by kernel_rfl) (y_build rfl z_zeroN25 z_places25 rfl (lay_1 (off := 0) (n := 36) rfl (q_len_c4b32 (by assumption)) (by decide) q_spl_c4b32_0_c1 (lay_1 (off := 1) (n := 36) rfl (q_len_c4b32 (by assumption)) (by decide) q_spl_c4b32_1_c1 (lay_1 (off := 2) (n := 36) rfl (q_len_c4b32 (by assumption)) (by decide) q_spl_c4b32_2_c1 (lay_1 (off := 3) (n := 36) rfl (q_len_c4b32 (by assumption)) (by decide) q_spl_c4b32_3_c1 (lay_f (off := 4) (z := 32) (n := 36) rfl (agg_cells _) (q_len_b32 (by assumption)) (q_len_c4b32 (by assumption)) (by decide) (q_spl_c4b32_4_b32 (by assumption) (by assumption)) lay_n) (by rfl)) (by rfl)) (by rfl)) (by rfl))) rfl rfl rfl (fun _ h => (h.sub (by first | exact S0 | exact S1 | repeat (first | exact S1 | exact S0 | apply S2 | apply S3)))) H90 ?_
                clear H90; intro a91 H91
                refine hgo 17 rfl (by kernel_rfl) ?_
                refine st_alloc rfl z_zeroN25 rfl rfl rfl H91 ?_
                clear H91; intro b92 a92 wx92 H92
                refine hfin (H92.sep.sub (by first | exact S0 | exact S1 | repeat (first | exact S1 | exact S0 | apply S2 | apply S3))) ?_
                refine hgo 18 rfl (by kernel_rfl) ?_
                refine st_storeN rfl z_size25 rfl rfl (agg_cells _) (by repeat (first | exact Uh | apply Ut)) (q_one_c4b32 rfl rfl rfl rfl) (q_len_c4b32 (by assumption)) (q_len_c4b32 (by assumption)) (q_spl_c4b32_0_c4b32 (by assumption) (by assumption)) (by decide) rfl rfl H92 ?_
                clear H92; intro wx93 H93
                refine hfin (H93.sep.sub (by first | exact S0 | exact S1 | repeat (first | exact S1 | exact S0 | apply S2 | apply S3))) ?_
                refine hdone (by kernel_rfl) ?_
                refine then_n ?_
                refine wp_seq ?_
                refine wp_seq ?_
                have wfb : Note.Bid.Wf (Note.bidOf [n0, n1, n2, n3] ((Note.whole s).1.drop 4)) := Note.wf4 hnr hl32
                refine reg ?_
                refine plain (y_loadAB rfl z_agg25 z_size25 rfl (by repeat (first | exact Mh | apply Mt)) (q_ld_c4b32_0_36 (by assumption)) (q_len_c4b32 (by assumption))) rfl rfl rfl H93 ?_
                clear H93; intro a94 H94
                refine st_callg rfl z_call37 rfl rfl rfl rfl H94 (rbid (Note.bidOf [n0, n1, n2, n3] ((Note.whole s).1.drop 4)) wfb _) ?_
                clear H94; intro a95 wx95 H95
                refine plain ((by first | exact y_not_d rfl rfl | exact y_not rfl rfl)) rfl rfl rfl H95 ?_
                clear H95; intro a96 H96
                refine fin ?_
                refine then_n ?_
                refine cnd H96 rfl (fun hc97 => ?_) (fun hc97 => ?_) -- cond 4
                · skip
                  try simp only [decide_eq_true_eq, decide_eq_false_iff_not, Bool.not_eq_true', Bool.not_eq_false', Bool.and_eq_true, Bool.not_eq_true, Bool.not_eq_false] at hc97
                  refine wp_seq ?_
                  refine reg ?_
                  refine plain (y_build rfl z_zeroN25 z_places25 rfl lay_n) rfl rfl rfl H96 ?_
                  clear H96; intro a98 H98
                  refine st_storeN rfl z_size25 rfl rfl (agg_cells _) (by repeat (first | exact Uh | apply Ut)) (q_one_c4b32 rfl rfl rfl rfl) (q_len_c4b32 (by assumption)) (q_len_c4b32 (by assumption)) (q_spl_c4b32_0_c4b32 (by assumption) (by assumption)) (by decide) rfl rfl H98 ?_
                  clear H98; intro wx99 H99
                  refine plain (y_assign rfl rfl) rfl rfl rfl H99 ?_
                  clear H99; intro a100 H100
                  refine fin ?_
                  refine then_n ?_
                  refine wp_ret ?_
                  refine then_r ?_
                  -- return 4
                  refine retct rfl H100 rfl z_agg25 z_size25 (by repeat (first | exact Mh | apply Mt)) (q_len_c4b32 (by assumption)) rfl ?_
                  refine ⟨_, [], rfl, ⟨?_, rfl⟩, H100.sep.sub (List.nil_sublist _)⟩
                  first | (rw [Note.readBid_none (by first | exact Note.fields_none2 hfi | exact Note.fields_none1 (by assumption))]; rfl) | (rw [Note.readBid_bad (Note.fields_some (by assumption) hfi) (by rintro ⟨h1, h2, h3⟩; simp only [List.length_drop] at h1; omega)]; rfl) | (rw [Note.readBid_bad hfs (by rintro ⟨h1, h2, h3⟩; exact Bool.noConfusion (h3.symm.trans (show (Note.bidOf [n0, n1, n2, n3] ((Note.whole s).1.drop 4)).ok = false by assumption)))]; rfl) | (rw [Note.readBid_good hfs ⟨by simp only [List.length_drop]; omega, hl32, by assumption⟩]; rfl)
                · skip
                  try simp only [decide_eq_true_eq, decide_eq_false_iff_not, Bool.not_eq_true', Bool.not_eq_false', Bool.and_eq_true, Bool.not_eq_true, Bool.not_eq_false] at hc97
                  refine wp_skip ?_
                  refine then_n ?_
                  refine wp_seq ?_
                  refine reg ?_
                  refine plain (y_loadAB rfl z_agg25 z_size25 rfl (by repeat (first | exact Mh | apply Mt)) (q_ld_c4b32_0_36 (by assumption)) (q_len_c4b32 (by assumption))) rfl rfl rfl H96 ?_
                  clear H96; intro a101 H101
                  refine st_storeN rfl z_size25 rfl rfl (agg_cells _) (by repeat (first | exact Uh | apply Ut)) (q_one_c4b32 rfl rfl rfl rfl) (q_len_c4b32 (by assumption)) (q_len_c4b32 (by assumption)) (q_spl_c4b32_0_c4b32 (by assumption) (by assumption)) (by decide) rfl rfl H101 ?_
                  clear H101; intro wx102 H102
                  refine plain (y_assign rfl rfl) rfl rfl rfl H102 ?_
                  clear H102; intro a103 H103
                  refine fin ?_
                  refine then_n ?_
                  refine wp_ret ?_
                  -- return 5
                  refine retct rfl H103 rfl z_agg25 z_size25 (by repeat (first | exact Mh | apply Mt)) (q_len_c4b32 (by assumption)) rfl ?_
                  refine ⟨_, [], rfl, ⟨?_, rfl⟩, H103.sep.sub (List.nil_sublist _)⟩
                  first | (rw [Note.readBid_none (by first | exact Note.fields_none2 hfi | exact Note.fields_none1 (by assumption))]; rfl) | (rw [Note.readBid_bad (Note.fields_some (by assumption) hfi) (by rintro ⟨h1, h2, h3⟩; simp only [List.length_drop] at h1; omega)]; rfl) | (rw [Note.readBid_bad hfs (by rintro ⟨h1, h2, h3⟩; exact Bool.noConfusion (h3.symm.trans (show (Note.bidOf [n0, n1, n2, n3] ((Note.whole s).1.drop 4)).ok = false by assumption)))]; rfl) | (rw [Note.readBid_good hfs ⟨by simp only [List.length_drop]; omega, hl32, by assumption⟩]; rfl)
              · skip
                refine st_alloc rfl z_zeroN25 rfl rfl rfl H89 ?_
                clear H89; intro b104 a104 wx104 H104
                refine hfin (H104.sep.sub (by first | exact S0 | exact S1 | repeat (first | exact S1 | exact S0 | apply S2 | apply S3))) ?_
                refine hgo 15 rfl (by kernel_rfl) ?_
                refine st_callg rfl z_call54 rfl rfl rfl rfl H104 (rhash (((Note.whole s).1.drop 4).getD 0 []) hl32 _) ?_
                clear H104; intro a105 wx105 H105
                refine hfin (H105.sep.sub (by first | exact S0 | exact S1 | repeat (first | exact S1 | exact S0 | apply S2 | apply S3))) ?_
                refine htake 16 rfl (by kernel_rfl) (y_build rfl z_zeroN25 z_places25 rfl (lay_1 (off := 0) (n := 36) rfl (q_len_c4b32 (by assumption)) (by decide) q_spl_c4b32_0_c1 (lay_1 (off := 1) (n := 36) rfl (q_len_c4b32 (by assumption)) (by decide) q_spl_c4b32_1_c1 (lay_1 (off := 2) (n := 36) rfl (q_len_c4b32 (by assumption)) (by decide) q_spl_c4b32_2_c1 (lay_1 (off := 3) (n := 36) rfl (q_len_c4b32 (by assumption)) (by decide) q_spl_c4b32_3_c1 (lay_f (off := 4) (z := 32) (n := 36) rfl (agg_cells _) (q_len_b32 (by assumption)) (q_len_c4b32 (by assumption)) (by decide) (q_spl_c4b32_4_b32 (by assumption) (by assumption)) lay_n) (by rfl)) (by rfl)) (by rfl)) (by rfl))) rfl rfl rfl (fun _ h => (h.sub (by first | exact S0 | exact S1 | repeat (first | exact S1 | exact S0 | apply S2 | apply S3)))) H105 ?_
                clear H105; intro a106 H106
                refine hgo 18 rfl (by kernel_rfl) ?_
                refine st_storeN rfl z_size25 rfl rfl (agg_cells _) (by repeat (first | exact Uh | apply Ut)) (q_one_c4b32 rfl rfl rfl rfl) (q_len_c4b32 (by assumption)) (q_len_c4b32 (by assumption)) (q_spl_c4b32_0_c4b32 (by assumption) (by assumption)) (by decide) rfl rfl H106 ?_
                clear H106; intro wx107 H107
                refine hfin (H107.sep.sub (by first | exact S0 | exact S1 | repeat (first | exact S1 | exact S0 | apply S2 | apply S3))) ?_
                refine hdone (by kernel_rfl) ?_
                refine then_n ?_
                refine wp_seq ?_
                refine wp_seq ?_
                have wfb : Note.Bid.Wf (Note.bidOf [n0, n1, n2, n3] ((Note.whole s).1.drop 4)) := Note.wf4 hnr hl32
                refine reg ?_
                refine plain (y_loadAB rfl z_agg25 z_size25 rfl (by repeat (first | exact Mh | apply Mt)) (q_ld_c4b32_0_36 (by assumption)) (q_len_c4b32 (by assumption))) rfl rfl rfl H107 ?_
                clear H107; intro a108 H108
                refine st_callg rfl z_call37 rfl rfl rfl rfl H108 (rbid (Note.bidOf [n0, n1, n2, n3] ((Note.whole s).1.drop 4)) wfb _) ?_
                clear H108; intro a109 wx109 H109
                refine plain ((by first | exact y_not_d rfl rfl | exact y_not rfl rfl)) rfl rfl rfl H109 ?_
                clear H109; intro a110 H110
                refine fin ?_
                refine then_n ?_
                refine cnd H110 rfl (fun hc111 => ?_) (fun hc111 => ?_) -- cond 5
                · skip
                  try simp only [decide_eq_true_eq, decide_eq_false_iff_not, Bool.not_eq_true', Bool.not_eq_false', Bool.and_eq_true, Bool.not_eq_true, Bool.not_eq_false] at hc111
                  refine wp_seq ?_
                  refine reg ?_
                  refine plain (y_build rfl z_zeroN25 z_places25 rfl lay_n) rfl rfl rfl H110 ?_
                  clear H110; intro a112 H112
                  refine st_storeN rfl z_size25 rfl rfl (agg_cells _) (by repeat (first | exact Uh | apply Ut)) (q_one_c4b32 rfl rfl rfl rfl) (q_len_c4b32 (by assumption)) (q_len_c4b32 (by assumption)) (q_spl_c4b32_0_c4b32 (by assumption) (by assumption)) (by decide) rfl rfl H112 ?_
                  clear H112; intro wx113 H113
                  refine plain (y_assign rfl rfl) rfl rfl rfl H113 ?_
                  clear H113; intro a114 H114
                  refine fin ?_
                  refine then_n ?_
                  refine wp_ret ?_
                  refine then_r ?_
                  -- return 6
                  refine retct rfl H114 rfl z_agg25 z_size25 (by repeat (first | exact Mh | apply Mt)) (q_len_c4b32 (by assumption)) rfl ?_
                  refine ⟨_, [], rfl, ⟨?_, rfl⟩, H114.sep.sub (List.nil_sublist _)⟩
                  first | (rw [Note.readBid_none (by first | exact Note.fields_none2 hfi | exact Note.fields_none1 (by assumption))]; rfl) | (rw [Note.readBid_bad (Note.fields_some (by assumption) hfi) (by rintro ⟨h1, h2, h3⟩; simp only [List.length_drop] at h1; omega)]; rfl) | (rw [Note.readBid_bad hfs (by rintro ⟨h1, h2, h3⟩; exact Bool.noConfusion (h3.symm.trans (show (Note.bidOf [n0, n1, n2, n3] ((Note.whole s).1.drop 4)).ok = false by assumption)))]; rfl) | (rw [Note.readBid_good hfs ⟨by simp only [List.length_drop]; omega, hl32, by assumption⟩]; rfl)
                · skip
                  try simp only [decide_eq_true_eq, decide_eq_false_iff_not, Bool.not_eq_true', Bool.not_eq_false', Bool.and_eq_true, Bool.not_eq_true, Bool.not_eq_false] at hc111
                  refine wp_skip ?_
                  refine then_n ?_
                  refine wp_seq ?_
                  refine reg ?_
                  refine plain (y_loadAB rfl z_agg25 z_size25 rfl (by repeat (first | exact Mh | apply Mt)) (q_ld_c4b32_0_36 (by assumption)) (q_len_c4b32 (by assumption))) rfl rfl rfl H110 ?_
                  clear H110; intro a115 H115
                  refine st_storeN rfl z_size25 rfl rfl (agg_cells _) (by repeat (first | exact Uh | apply Ut)) (q_one_c4b32 rfl rfl rfl rfl) (q_len_c4b32 (by assumption)) (q_len_c4b32 (by assumption)) (q_spl_c4b32_0_c4b32 (by assumption) (by assumption)) (by decide) rfl rfl H115 ?_
                  clear H115; intro wx116 H116
                  refine plain (y_assign rfl rfl) rfl rfl rfl H116 ?_
                  clear H116; intro a117 H117
                  refine fin ?_
                  refine then_n ?_
                  refine wp_ret ?_
                  -- return 7
                  refine retct rfl H117 rfl z_agg25 z_size25 (by repeat (first | exact Mh | apply Mt)) (q_len_c4b32 (by assumption)) rfl ?_
                  refine ⟨_, [], rfl, ⟨?_, rfl⟩, H117.sep.sub (List.nil_sublist _)⟩
                  first | (rw [Note.readBid_none (by first | exact Note.fields_none2 hfi | exact Note.fields_none1 (by assumption))]; rfl) | (rw [Note.readBid_bad (Note.fields_some (by assumption) hfi) (by rintro ⟨h1, h2, h3⟩; simp only [List.length_drop] at h1; omega)]; rfl) | (rw [Note.readBid_bad hfs (by rintro ⟨h1, h2, h3⟩; exact Bool.noConfusion (h3.symm.trans (show (Note.bidOf [n0, n1, n2, n3] ((Note.whole s).1.drop 4)).ok = false by assumption)))]; rfl) | (rw [Note.readBid_good hfs ⟨by simp only [List.length_drop]; omega, hl32, by assumption⟩]; rfl)
  · skip
    simp only [List.nil_append] at H11
    refine plain (y_move rfl rfl) rfl rfl rfl H11 ?_
    clear H11; intro a118 H118
    refine plain (y_extract rfl rfl rfl) rfl rfl rfl H118 ?_
    clear H118; intro a119 H119
    refine plain (y_extract rfl rfl rfl) rfl rfl rfl H119 ?_
    clear H119; intro a120 H120
    refine plain (y_assign rfl rfl) rfl rfl rfl H120 ?_
    clear H120; intro a121 H121
    refine plain (y_assign rfl rfl) rfl rfl rfl H121 ?_
    clear H121; intro a122 H122
    refine fin ?_
    refine then_n ?_
    refine wp_seq ?_
    refine wp_seq ?_
    refine reg ?_
    refine plain (y_move rfl rfl) rfl rfl rfl H122 ?_
    clear H122; intro a123 H123
    refine plain (y_neq rfl rfl rfl) rfl rfl rfl H123 ?_
    clear H123; intro a124 H124
    refine plain (y_move rfl rfl) rfl rfl rfl H124 ?_
    clear H124; intro a125 H125
    refine Sx.part (d := 21) H125 rfl (fun hg126 => ?_) (fun hg126 => ?_)
    · first
      | fail
      | skip
        clear H125; intro H127
        try simp only [decide_eq_true_eq, decide_eq_false_iff_not, Bool.not_eq_true', Bool.not_eq_false', Bool.and_eq_true, Bool.not_eq_true, Bool.not_eq_false] at hg126
        refine skip rfl rfl rfl H127 ?_
        clear H127; intro a128 H128
        refine skip rfl rfl rfl H128 ?_
        clear H128; intro a129 H129
        refine plain (y_pick_t rfl rfl rfl) rfl rfl rfl H129 ?_
        clear H129; intro a130 H130
        refine plain (y_move rfl rfl) rfl rfl rfl H130 ?_
        clear H130; intro a131 H131
        refine skip rfl rfl rfl H131 ?_
        clear H131; intro a132 H132
        refine skip rfl rfl rfl H132 ?_
        clear H132; intro a133 H133
        refine skip rfl rfl rfl H133 ?_
        clear H133; intro a134 H134
        refine plain (y_pick_t rfl rfl rfl) rfl rfl rfl H134 ?_
        clear H134; intro a135 H135
        refine plain (y_move rfl rfl) rfl rfl rfl H135 ?_
        clear H135; intro a136 H136
        refine skip rfl rfl rfl H136 ?_
        clear H136; intro a137 H137
        refine skip rfl rfl rfl H137 ?_
        clear H137; intro a138 H138
        refine skip rfl rfl rfl H138 ?_
        clear H138; intro a139 H139
        refine skip rfl rfl rfl H139 ?_
        clear H139; intro a140 H140
        refine skip rfl rfl rfl H140 ?_
        clear H140; intro a141 H141
        refine plain (y_pick_t rfl rfl rfl) rfl rfl rfl H141 ?_
        clear H141; intro a142 H142
        refine fin ?_
        refine then_n ?_
        refine cnd_t H142 rfl ?_
        refine wp_seq ?_
        refine reg ?_
        refine plain (y_build rfl z_zeroN25 z_places25 rfl lay_n) rfl rfl rfl H142 ?_
        clear H142; intro a144 H144
        refine st_storeN rfl z_size25 rfl rfl (agg_cells _) (by repeat (first | exact Uh | apply Ut)) (q_one_c4b32 rfl rfl rfl rfl) (q_len_c4b32 (by assumption)) (q_len_c4b32 (by assumption)) (q_spl_c4b32_0_c4b32 (by assumption) (by assumption)) (by decide) rfl rfl H144 ?_
        clear H144; intro wx145 H145
        refine plain (y_assign rfl rfl) rfl rfl rfl H145 ?_
        clear H145; intro a146 H146
        refine fin ?_
        refine then_n ?_
        refine wp_ret ?_
        refine then_r ?_
        -- return 8
        refine retct rfl H146 rfl z_agg25 z_size25 (by repeat (first | exact Mh | apply Mt)) (q_len_c4b32 (by assumption)) rfl ?_
        refine ⟨_, [], rfl, ⟨?_, rfl⟩, H146.sep.sub (List.nil_sublist _)⟩
        first | (rw [Note.readBid_none (by first | exact Note.fields_none2 hfi | exact Note.fields_none1 (by assumption))]; rfl) | (rw [Note.readBid_bad (Note.fields_some (by assumption) hfi) (by rintro ⟨h1, h2, h3⟩; simp only [List.length_drop] at h1; omega)]; rfl) | (rw [Note.readBid_bad hfs (by rintro ⟨h1, h2, h3⟩; exact Bool.noConfusion (h3.symm.trans (show (Note.bidOf [n0, n1, n2, n3] ((Note.whole s).1.drop 4)).ok = false by assumption)))]; rfl) | (rw [Note.readBid_good hfs ⟨by simp only [List.length_drop]; omega, hl32, by assumption⟩]; rfl)
    · first
      | fail
      | skip
        clear H125; intro H147
        try simp only [decide_eq_true_eq, decide_eq_false_iff_not, Bool.not_eq_true', Bool.not_eq_false', Bool.and_eq_true, Bool.not_eq_true, Bool.not_eq_false] at hg126
        refine plain (y_move rfl rfl) rfl rfl rfl H147 ?_
        clear H147; intro a148 H148
        refine plain (y_not rfl rfl) rfl rfl rfl H148 ?_
        clear H148; intro a149 H149
        refine plain (y_pick_f rfl rfl rfl) rfl rfl rfl H149 ?_
        clear H149; intro a150 H150
        refine plain (y_move rfl rfl) rfl rfl rfl H150 ?_
        clear H150; intro a151 H151
        refine skip rfl rfl rfl H151 ?_
        clear H151; intro a152 H152
        refine skip rfl rfl rfl H152 ?_
        clear H152; intro a153 H153
        refine skip rfl rfl rfl H153 ?_
        clear H153; intro a154 H154
        refine plain (y_pick_t rfl rfl rfl) rfl rfl rfl H154 ?_
        clear H154; intro a155 H155
        refine plain (y_move rfl rfl) rfl rfl rfl H155 ?_
        clear H155; intro a156 H156
        refine skip rfl rfl rfl H156 ?_
        clear H156; intro a157 H157
        refine skip rfl rfl rfl H157 ?_
        clear H157; intro a158 H158
        refine skip rfl rfl rfl H158 ?_
        clear H158; intro a159 H159
        refine skip rfl rfl rfl H159 ?_
        clear H159; intro a160 H160
        refine skip rfl rfl rfl H160 ?_
        clear H160; intro a161 H161
        refine plain (y_pick_t rfl rfl rfl) rfl rfl rfl H161 ?_
        clear H161; intro a162 H162
        refine fin ?_
        refine then_n ?_
        refine cnd_t H162 rfl ?_
        refine wp_seq ?_
        refine reg ?_
        refine plain (y_build rfl z_zeroN25 z_places25 rfl lay_n) rfl rfl rfl H162 ?_
        clear H162; intro a164 H164
        refine st_storeN rfl z_size25 rfl rfl (agg_cells _) (by repeat (first | exact Uh | apply Ut)) (q_one_c4b32 rfl rfl rfl rfl) (q_len_c4b32 (by assumption)) (q_len_c4b32 (by assumption)) (q_spl_c4b32_0_c4b32 (by assumption) (by assumption)) (by decide) rfl rfl H164 ?_
        clear H164; intro wx165 H165
        refine plain (y_assign rfl rfl) rfl rfl rfl H165 ?_
        clear H165; intro a166 H166
        refine fin ?_
        refine then_n ?_
        refine wp_ret ?_
        refine then_r ?_
        -- return 9
        refine retct rfl H166 rfl z_agg25 z_size25 (by repeat (first | exact Mh | apply Mt)) (q_len_c4b32 (by assumption)) rfl ?_
        refine ⟨_, [], rfl, ⟨?_, rfl⟩, H166.sep.sub (List.nil_sublist _)⟩
        first | (rw [Note.readBid_none (by first | exact Note.fields_none2 hfi | exact Note.fields_none1 (by assumption))]; rfl) | (rw [Note.readBid_bad (Note.fields_some (by assumption) hfi) (by rintro ⟨h1, h2, h3⟩; simp only [List.length_drop] at h1; omega)]; rfl) | (rw [Note.readBid_bad hfs (by rintro ⟨h1, h2, h3⟩; exact Bool.noConfusion (h3.symm.trans (show (Note.bidOf [n0, n1, n2, n3] ((Note.whole s).1.drop 4)).ok = false by assumption)))]; rfl) | (rw [Note.readBid_good hfs ⟨by simp only [List.length_drop]; omega, hl32, by assumption⟩]; rfl)

end Go.Proofs.YtnnhnnhdoipbaaaDoor.N_RefB

set_option linter.unusedVariables false
set_option linter.unusedSimpArgs false
namespace Go.Proofs.YtnnhnnhdoipbaaaDoor.N_RefI
open Go.Sx Go.RowKit Go.Proofs.YtnnhnnhdoipbaaaDoor.N_Block Go.Proofs.YtnnhnnhdoipbaaaDoor.N_Sum Go.Proofs.YtnnhnnhdoipbaaaDoor.N_Ref Go.Proofs.YtnnhnnhdoipbaaaDoor.N_RSum Go.Proofs.YtnnhnnhdoipbaaaDoor.N_Leaf Go.Proofs.YtnnhnnhdoipbaaaDoor.N_Num Go.Proofs.YtnnhnnhdoipbaaaDoor.N_Key Go.Proofs.YtnnhnnhdoipbaaaDoor.N_Ref Go.Proofs.YtnnhnnhdoipbaaaDoor.N_RSum Go.Proofs.YtnnhnnhdoipbaaaDoor.N_Tag Go.Proofs.YtnnhnnhdoipbaaaDoor.N_Read Go.Proofs.YtnnhnnhdoipbaaaDoor.N_Lay Go.Proofs.YtnnhnnhdoipbaaaDoor.N_Eq Go.Proofs.YtnnhnnhdoipbaaaDoor.N_Ref0

theorem z_field46_1 : fieldB Tryd.prog 46 1 = some 1 := by kernel_rfl
theorem z_agg3 : aggB Tryd.prog 3 = some false := by kernel_rfl
theorem q_ix_c4_1 {a0 a1 a2 a3 : Value} : (a0 :: a1 :: a2 :: a3 :: [])[1]? = some a1 := (ix_c (o := 0) ix_0)
theorem z_call45 : callB Tryd.prog 45 = true := by kernel_rfl
theorem z_field46_2 : fieldB Tryd.prog 46 2 = some 2 := by kernel_rfl
theorem q_ix_c4_2 {a0 a1 a2 a3 : Value} : (a0 :: a1 :: a2 :: a3 :: [])[2]? = some a2 := (ix_c (o := 1) (ix_c (o := 0) ix_0))
theorem z_field46_3 : fieldB Tryd.prog 46 3 = some 3 := by kernel_rfl
theorem z_agg9 : aggB Tryd.prog 9 = some false := by kernel_rfl
theorem q_ix_c4_3 {a0 a1 a2 a3 : Value} : (a0 :: a1 :: a2 :: a3 :: [])[3]? = some a3 := (ix_c (o := 2) (ix_c (o := 1) (ix_c (o := 0) ix_0)))
theorem z_field46_0 : fieldB Tryd.prog 46 0 = some 0 := by kernel_rfl
theorem q_ix_c4_0 {a0 a1 a2 a3 : Value} : (a0 :: a1 :: a2 :: a3 :: [])[0]? = some a0 := ix_0
theorem z_agg46 : aggB Tryd.prog 46 = some true := by kernel_rfl
theorem z_size46 : sizeB Tryd.prog 46 = some 4 := by kernel_rfl
theorem q_ld_c4_0_4 {a0 a1 a2 a3 : Value} : ((a0 :: a1 :: a2 :: a3 :: []).drop 0).take 4 = a0 :: a1 :: a2 :: a3 :: [] := (ld_a (len_c (n := 3) (len_c (n := 2) (len_c (n := 1) (len_c (n := 0) len_n)))))
theorem q_len_c4 {a0 a1 a2 a3 : Value} : (a0 :: a1 :: a2 :: a3 :: []).length = 4 := (len_c (n := 3) (len_c (n := 2) (len_c (n := 1) (len_c (n := 0) len_n))))
theorem z_call50 : callB Tryd.prog 50 = true := by kernel_rfl
theorem z_call39 : callB Tryd.prog 39 = true := by kernel_rfl
theorem z_size9 : sizeB Tryd.prog 9 = some 1 := by kernel_rfl
theorem z_zero9 : zeroL Tryd.prog 9 = some ([.string ⟨#[]⟩]) := by kernel_rfl
theorem z_call38 : callB Tryd.prog 38 = true := by kernel_rfl
theorem z_zeroN46 : zeroL Tryd.prog 46 = some ((.int .i64 0 :: (.int .i64 0 :: (.int .i64 0 :: (.string ⟨#[]⟩ :: []))))) := by kernel_rfl
theorem z_call52 : callB Tryd.prog 52 = true := by kernel_rfl
theorem z_call53 : callB Tryd.prog 53 = true := by kernel_rfl
theorem z_places46 : placesB Tryd.prog 46 = some [(0, 1), (1, 1), (2, 1), (3, 1)] := by kernel_rfl
theorem q_one_c4 {a0 a1 a2 a3 : Value} (o0 : a0.oneCell' = true) (o1 : a1.oneCell' = true) (o2 : a2.oneCell' = true) (o3 : a3.oneCell' = true) : (a0 :: a1 :: a2 :: a3 :: []).all (·.oneCell') = true := (one_c o0 (one_c o1 (one_c o2 (one_c o3 one_n))))
theorem q_spl_c4_0_c4 {a0 a1 a2 a3 : Value} {b0 b1 b2 b3 : Value} : spl (a0 :: a1 :: a2 :: a3 :: []) 0 (b0 :: b1 :: b2 :: b3 :: []) = b0 :: b1 :: b2 :: b3 :: [] := (spl_a (z := 4) (len_c (n := 3) (len_c (n := 2) (len_c (n := 1) (len_c (n := 0) len_n)))) (len_c (n := 3) (len_c (n := 2) (len_c (n := 1) (len_c (n := 0) len_n)))))
theorem z_size3 : sizeB Tryd.prog 3 = some 1 := by kernel_rfl
theorem q_spl_c4_0_c1 {a0 a1 a2 a3 : Value} {b0 : Value} : spl (a0 :: a1 :: a2 :: a3 :: []) 0 (b0 :: []) = b0 :: a1 :: a2 :: a3 :: [] := spl_0
theorem q_spl_c4_1_c1 {a0 a1 a2 a3 : Value} {b0 : Value} : spl (a0 :: a1 :: a2 :: a3 :: []) 1 (b0 :: []) = a0 :: b0 :: a2 :: a3 :: [] := (spl_c (o := 0) spl_0)
theorem q_spl_c4_2_c1 {a0 a1 a2 a3 : Value} {b0 : Value} : spl (a0 :: a1 :: a2 :: a3 :: []) 2 (b0 :: []) = a0 :: a1 :: b0 :: a3 :: [] := (spl_c (o := 1) (spl_c (o := 0) spl_0))
theorem q_spl_c4_3_c1 {a0 a1 a2 a3 : Value} {b0 : Value} : spl (a0 :: a1 :: a2 :: a3 :: []) 3 (b0 :: []) = a0 :: a1 :: a2 :: b0 :: [] := (spl_c (o := 2) (spl_c (o := 1) (spl_c (o := 0) spl_0)))

set_option maxRecDepth 100000 in
set_option maxHeartbeats 1000000 in
theorem ritem (i : Note.Item) (wf : Note.Item.Wf i) (w : World) : Calls Tryd.prog 50 #[.agg (Note.Item.cells i).toArray] w (Gives (.bool i.ok) [] w) := by
  have lz32 : (List.replicate 32 (0 : UInt8)).length = 32 := List.length_replicate
  refine enterL (args := [.agg (Note.Item.cells i).toArray]) Tryd.func50 rfl rfl (l := []) (Sep.refl _) ?_
  intro a0 H0
  refine wp_seq ?_
  refine reg ?_
  refine st_box rfl rfl (agg_cells _) rfl rfl rfl H0 ?_
  clear H0; intro b1 a1 wx1 H1
  refine plain (y_assign rfl rfl) rfl rfl rfl H1 ?_
  clear H1; intro a2 H2
  refine fin ?_
  refine then_n ?_
  refine wp_seq ?_
  refine wp_seq ?_
  refine reg ?_
  refine plain (y_fieldB rfl z_field46_1 rfl (by first | (simp only [Nat.zero_add, Nat.add_zero, Nat.reduceAdd]; rfl) | rfl)) rfl rfl rfl H2 ?_
  clear H2; intro a3 H3
  refine plain (y_loadB rfl z_agg3 rfl (by repeat (first | exact Mh | apply Mt)) q_ix_c4_1) rfl rfl rfl H3 ?_
  clear H3; intro a4 H4
  refine st_callg rfl z_call45 rfl rfl rfl rfl H4 (rwithin _ _ _) ?_
  clear H4; intro a5 wx5 H5
  refine plain ((by first | exact y_not_d rfl rfl | exact y_not rfl rfl)) rfl rfl rfl H5 ?_
  clear H5; intro a6 H6
  refine plain (y_move rfl rfl) rfl rfl rfl H6 ?_
  clear H6; intro a7 H7
  refine Sx.part (d := 7) H7 rfl (fun hg8 => ?_) (fun hg8 => ?_)
  · first
    | fail
    | skip
      clear H7; intro H9
      try simp only [decide_eq_true_eq, decide_eq_false_iff_not, Bool.not_eq_true', Bool.not_eq_false', Bool.and_eq_true, Bool.not_eq_true, Bool.not_eq_false] at hg8
      refine skip rfl rfl rfl H9 ?_
      clear H9; intro a10 H10
      refine skip rfl rfl rfl H10 ?_
      clear H10; intro a11 H11
      refine skip rfl rfl rfl H11 ?_
      clear H11; intro a12 H12
      refine skip rfl rfl rfl H12 ?_
      clear H12; intro a13 H13
      refine plain (y_pick_t rfl rfl rfl) rfl rfl rfl H13 ?_
      clear H13; intro a14 H14
      refine plain (y_move rfl rfl) rfl rfl rfl H14 ?_
      clear H14; intro a15 H15
      refine skip rfl rfl rfl H15 ?_
      clear H15; intro a16 H16
      refine skip rfl rfl rfl H16 ?_
      clear H16; intro a17 H17
      refine skip rfl rfl rfl H17 ?_
      clear H17; intro a18 H18
      refine skip rfl rfl rfl H18 ?_
      clear H18; intro a19 H19
      refine plain (y_pick_t rfl rfl rfl) rfl rfl rfl H19 ?_
      clear H19; intro a20 H20
      refine fin ?_
      refine then_n ?_
      refine cnd_t H20 rfl ?_
      refine wp_seq ?_
      refine reg ?_
      refine plain (y_assign rfl rfl) rfl rfl rfl H20 ?_
      clear H20; intro a22 H22
      refine fin ?_
      refine then_n ?_
      refine wp_ret ?_
      refine then_r ?_
      -- return 1
      refine ret1 rfl H22 rfl ?_
      try simp only [Note.text0] at *
      refine ⟨_, [], rfl, ⟨?_, rfl⟩, H22.sep.sub (List.nil_sublist _)⟩
      clear H22
      rw [Note.Item.ok_is]
      first | exact congrArg Value.bool (decide_eq_decide.2 (by omega)) | exact congrArg Value.bool (decide_eq_false (by omega)).symm | exact congrArg Value.bool (decide_eq_true (by omega)).symm
  · first
    | fail
    | skip
      clear H7; intro H23
      try simp only [decide_eq_true_eq, decide_eq_false_iff_not, Bool.not_eq_true', Bool.not_eq_false', Bool.and_eq_true, Bool.not_eq_true, Bool.not_eq_false] at hg8
      refine plain (y_fieldB rfl z_field46_2 rfl (by first | (simp only [Nat.zero_add, Nat.add_zero, Nat.reduceAdd]; rfl) | rfl)) rfl rfl rfl H23 ?_
      clear H23; intro a24 H24
      refine plain (y_loadB rfl z_agg3 rfl (by repeat (first | exact Mh | apply Mt)) q_ix_c4_2) rfl rfl rfl H24 ?_
      clear H24; intro a25 H25
      refine st_callg rfl z_call45 rfl rfl rfl rfl H25 (rwithin _ _ _) ?_
      clear H25; intro a26 wx26 H26
      refine plain ((by first | exact y_not_d rfl rfl | exact y_not rfl rfl)) rfl rfl rfl H26 ?_
      clear H26; intro a27 H27
      refine plain (y_pick_f rfl rfl rfl) rfl rfl rfl H27 ?_
      clear H27; intro a28 H28
      refine plain (y_move rfl rfl) rfl rfl rfl H28 ?_
      clear H28; intro a29 H29
      refine Sx.part (d := 13) H29 rfl (fun hg30 => ?_) (fun hg30 => ?_)
      · first
        | fail
        | skip
          clear H29; intro H31
          try simp only [decide_eq_true_eq, decide_eq_false_iff_not, Bool.not_eq_true', Bool.not_eq_false', Bool.and_eq_true, Bool.not_eq_true, Bool.not_eq_false] at hg30
          refine skip rfl rfl rfl H31 ?_
          clear H31; intro a32 H32
          refine skip rfl rfl rfl H32 ?_
          clear H32; intro a33 H33
          refine skip rfl rfl rfl H33 ?_
          clear H33; intro a34 H34
          refine skip rfl rfl rfl H34 ?_
          clear H34; intro a35 H35
          refine plain (y_pick_t rfl rfl rfl) rfl rfl rfl H35 ?_
          clear H35; intro a36 H36
          refine fin ?_
          refine then_n ?_
          refine cnd_t H36 rfl ?_
          refine wp_seq ?_
          refine reg ?_
          refine plain (y_assign rfl rfl) rfl rfl rfl H36 ?_
          clear H36; intro a38 H38
          refine fin ?_
          refine then_n ?_
          refine wp_ret ?_
          refine then_r ?_
          -- return 2
          refine ret1 rfl H38 rfl ?_
          try simp only [Note.text0] at *
          refine ⟨_, [], rfl, ⟨?_, rfl⟩, H38.sep.sub (List.nil_sublist _)⟩
          clear H38
          rw [Note.Item.ok_is]
          first | exact congrArg Value.bool (decide_eq_decide.2 (by omega)) | exact congrArg Value.bool (decide_eq_false (by omega)).symm | exact congrArg Value.bool (decide_eq_true (by omega)).symm
      · first
        | fail
        | skip
          clear H29; intro H39
          try simp only [decide_eq_true_eq, decide_eq_false_iff_not, Bool.not_eq_true', Bool.not_eq_false', Bool.and_eq_true, Bool.not_eq_true, Bool.not_eq_false] at hg30
          refine plain (y_fieldB rfl z_field46_3 rfl (by first | (simp only [Nat.zero_add, Nat.add_zero, Nat.reduceAdd]; rfl) | rfl)) rfl rfl rfl H39 ?_
          clear H39; intro a40 H40
          refine plain (y_loadB rfl z_agg9 rfl (by repeat (first | exact Mh | apply Mt)) q_ix_c4_3) rfl rfl rfl H40 ?_
          clear H40; intro a41 H41
          refine plain (y_slen rfl Tryd.underlying9 rfl) rfl rfl rfl H41 ?_
          clear H41; intro a42 H42
          refine plain (y_gtr rfl rfl rfl) rfl rfl rfl H42 ?_
          clear H42; intro a43 H43
          refine plain (y_pick_f rfl rfl rfl) rfl rfl rfl H43 ?_
          clear H43; intro a44 H44
          refine fin ?_
          refine then_n ?_
          refine cnd H44 rfl (fun hc45 => ?_) (fun hc45 => ?_) -- cond 3
          · skip
            try simp only [decide_eq_true_eq, decide_eq_false_iff_not, Bool.not_eq_true', Bool.not_eq_false', Bool.and_eq_true, Bool.not_eq_true, Bool.not_eq_false] at hc45
            refine wp_seq ?_
            refine reg ?_
            refine plain (y_assign rfl rfl) rfl rfl rfl H44 ?_
            clear H44; intro a46 H46
            refine fin ?_
            refine then_n ?_
            refine wp_ret ?_
            refine then_r ?_
            -- return 3
            refine ret1 rfl H46 rfl ?_
            try simp only [Note.text0] at *
            refine ⟨_, [], rfl, ⟨?_, rfl⟩, H46.sep.sub (List.nil_sublist _)⟩
            clear H46
            rw [Note.Item.ok_is]
            first | exact congrArg Value.bool (decide_eq_decide.2 (by omega)) | exact congrArg Value.bool (decide_eq_false (by omega)).symm | exact congrArg Value.bool (decide_eq_true (by omega)).symm
          · skip
            try simp only [decide_eq_true_eq, decide_eq_false_iff_not, Bool.not_eq_true', Bool.not_eq_false', Bool.and_eq_true, Bool.not_eq_true, Bool.not_eq_false] at hc45
            refine wp_skip ?_
            refine then_n ?_
            refine wp_seq ?_
            refine wp_seq ?_
            refine reg ?_
            refine plain (y_fieldB rfl z_field46_0 rfl (by first | (simp only [Nat.zero_add, Nat.add_zero, Nat.reduceAdd]; rfl) | rfl)) rfl rfl rfl H44 ?_
            clear H44; intro a47 H47
            refine plain (y_loadB rfl z_agg3 rfl (by repeat (first | exact Mh | apply Mt)) q_ix_c4_0) rfl rfl rfl H47 ?_
            clear H47; intro a48 H48
            refine plain (y_eql rfl rfl rfl) rfl rfl rfl H48 ?_
            clear H48; intro a49 H49
            refine fin ?_
            refine then_n ?_
            refine cnd H49 rfl (fun hc50 => ?_) (fun hc50 => ?_) -- cond 4
            · skip
              try simp only [decide_eq_true_eq, decide_eq_false_iff_not, Bool.not_eq_true', Bool.not_eq_false', Bool.and_eq_true, Bool.not_eq_true, Bool.not_eq_false] at hc50
              refine wp_seq ?_
              refine reg ?_
              refine plain (y_fieldB rfl z_field46_1 rfl (by first | (simp only [Nat.zero_add, Nat.add_zero, Nat.reduceAdd]; rfl) | rfl)) rfl rfl rfl H49 ?_
              clear H49; intro a51 H51
              refine plain (y_loadB rfl z_agg3 rfl (by repeat (first | exact Mh | apply Mt)) q_ix_c4_1) rfl rfl rfl H51 ?_
              clear H51; intro a52 H52
              refine plain (y_eql rfl rfl rfl) rfl rfl rfl H52 ?_
              clear H52; intro a53 H53
              refine plain (y_move rfl rfl) rfl rfl rfl H53 ?_
              clear H53; intro a54 H54
              refine Sx.part (d := 25) H54 rfl (fun hg55 => ?_) (fun hg55 => ?_)
              · first
                | fail
                | skip
                  clear H54; intro H56
                  try simp only [decide_eq_true_eq, decide_eq_false_iff_not, Bool.not_eq_true', Bool.not_eq_false', Bool.and_eq_true, Bool.not_eq_true, Bool.not_eq_false] at hg55
                  refine plain (y_fieldB rfl z_field46_3 rfl (by first | (simp only [Nat.zero_add, Nat.add_zero, Nat.reduceAdd]; rfl) | rfl)) rfl rfl rfl H56 ?_
                  clear H56; intro a57 H57
                  refine plain (y_loadB rfl z_agg9 rfl (by repeat (first | exact Mh | apply Mt)) q_ix_c4_3) rfl rfl rfl H57 ?_
                  clear H57; intro a58 H58
                  refine plain (y_seql rfl rfl rfl) rfl rfl rfl H58 ?_
                  clear H58; intro a59 H59
                  refine plain (y_pick_t rfl rfl rfl) rfl rfl rfl H59 ?_
                  clear H59; intro a60 H60
                  refine plain (y_assign rfl rfl) rfl rfl rfl H60 ?_
                  clear H60; intro a61 H61
                  refine fin ?_
                  refine then_n ?_
                  refine wp_ret ?_
                  refine then_r ?_
                  -- return 4
                  refine ret1 rfl H61 rfl ?_
                  try simp only [Note.text0] at *
                  refine ⟨_, [], rfl, ⟨?_, rfl⟩, H61.sep.sub (List.nil_sublist _)⟩
                  clear H61
                  rw [Note.Item.ok_is]
                  first | exact congrArg Value.bool (decide_eq_decide.2 (by omega)) | exact congrArg Value.bool (decide_eq_false (by omega)).symm | exact congrArg Value.bool (decide_eq_true (by omega)).symm
              · first
                | fail
                | skip
                  clear H54; intro H62
                  try simp only [decide_eq_true_eq, decide_eq_false_iff_not, Bool.not_eq_true', Bool.not_eq_false', Bool.and_eq_true, Bool.not_eq_true, Bool.not_eq_false] at hg55
                  refine skip rfl rfl rfl H62 ?_
                  clear H62; intro a63 H63
                  refine skip rfl rfl rfl H63 ?_
                  clear H63; intro a64 H64
                  refine skip rfl rfl rfl H64 ?_
                  clear H64; intro a65 H65
                  refine plain (y_pick_f rfl rfl rfl) rfl rfl rfl H65 ?_
                  clear H65; intro a66 H66
                  refine plain (y_assign rfl rfl) rfl rfl rfl H66 ?_
                  clear H66; intro a67 H67
                  refine fin ?_
                  refine then_n ?_
                  refine wp_ret ?_
                  refine then_r ?_
                  -- return 5
                  refine ret1 rfl H67 rfl ?_
                  try simp only [Note.text0] at *
                  refine ⟨_, [], rfl, ⟨?_, rfl⟩, H67.sep.sub (List.nil_sublist _)⟩
                  clear H67
                  rw [Note.Item.ok_is]
                  first | exact congrArg Value.bool (decide_eq_decide.2 (by omega)) | exact congrArg Value.bool (decide_eq_false (by omega)).symm | exact congrArg Value.bool (decide_eq_true (by omega)).symm
            · skip
              try simp only [decide_eq_true_eq, decide_eq_false_iff_not, Bool.not_eq_true', Bool.not_eq_false', Bool.and_eq_true, Bool.not_eq_true, Bool.not_eq_false] at hc50
              refine wp_skip ?_
              refine then_n ?_
              refine wp_seq ?_
              refine reg ?_
              refine plain (y_fieldB rfl z_field46_0 rfl (by first | (simp only [Nat.zero_add, Nat.add_zero, Nat.reduceAdd]; rfl) | rfl)) rfl rfl rfl H49 ?_
              clear H49; intro a68 H68
              refine plain (y_loadB rfl z_agg3 rfl (by repeat (first | exact Mh | apply Mt)) q_ix_c4_0) rfl rfl rfl H68 ?_
              clear H68; intro a69 H69
              refine plain (y_eql rfl rfl rfl) rfl rfl rfl H69 ?_
              clear H69; intro a70 H70
              refine plain (y_move rfl rfl) rfl rfl rfl H70 ?_
              clear H70; intro a71 H71
              refine Sx.part (d := 33) H71 rfl (fun hg72 => ?_) (fun hg72 => ?_)
              · first
                | fail
                | skip
                  clear H71; intro H73
                  try simp only [decide_eq_true_eq, decide_eq_false_iff_not, Bool.not_eq_true', Bool.not_eq_false', Bool.and_eq_true, Bool.not_eq_true, Bool.not_eq_false] at hg72
                  refine skip rfl rfl rfl H73 ?_
                  clear H73; intro a74 H74
                  refine skip rfl rfl rfl H74 ?_
                  clear H74; intro a75 H75
                  refine skip rfl rfl rfl H75 ?_
                  clear H75; intro a76 H76
                  refine plain (y_pick_t rfl rfl rfl) rfl rfl rfl H76 ?_
                  clear H76; intro a77 H77
                  refine plain (y_move rfl rfl) rfl rfl rfl H77 ?_
                  clear H77; intro a78 H78
                  refine plain (y_fieldB rfl z_field46_2 rfl (by first | (simp only [Nat.zero_add, Nat.add_zero, Nat.reduceAdd]; rfl) | rfl)) rfl rfl rfl H78 ?_
                  clear H78; intro a79 H79
                  refine plain (y_loadB rfl z_agg3 rfl (by repeat (first | exact Mh | apply Mt)) q_ix_c4_2) rfl rfl rfl H79 ?_
                  clear H79; intro a80 H80
                  refine plain (y_eql rfl rfl rfl) rfl rfl rfl H80 ?_
                  clear H80; intro a81 H81
                  refine plain (y_pick_t rfl rfl rfl) rfl rfl rfl H81 ?_
                  clear H81; intro a82 H82
                  refine plain (y_assign rfl rfl) rfl rfl rfl H82 ?_
                  clear H82; intro a83 H83
                  refine fin ?_
                  refine then_n ?_
                  refine wp_ret ?_
                  -- return 6
                  refine ret1 rfl H83 rfl ?_
                  try simp only [Note.text0] at *
                  refine ⟨_, [], rfl, ⟨?_, rfl⟩, H83.sep.sub (List.nil_sublist _)⟩
                  clear H83
                  rw [Note.Item.ok_is]
                  first | exact congrArg Value.bool (decide_eq_decide.2 (by omega)) | exact congrArg Value.bool (decide_eq_false (by omega)).symm | exact congrArg Value.bool (decide_eq_true (by omega)).symm
              · first
                | fail
                | skip
                  clear H71; intro H84
                  try simp only [decide_eq_true_eq, decide_eq_false_iff_not, Bool.not_eq_true', Bool.not_eq_false', Bool.and_eq_true, Bool.not_eq_true, Bool.not_eq_false] at hg72
                  refine plain (y_fieldB rfl z_field46_0 rfl (by first | (simp only [Nat.zero_add, Nat.add_zero, Nat.reduceAdd]; rfl) | rfl)) rfl rfl rfl H84 ?_
                  clear H84; intro a85 H85
                  refine plain (y_loadB rfl z_agg3 rfl (by repeat (first | exact Mh | apply Mt)) q_ix_c4_0) rfl rfl rfl H85 ?_
                  clear H85; intro a86 H86
                  refine plain (y_eql rfl rfl rfl) rfl rfl rfl H86 ?_
                  clear H86; intro a87 H87
                  refine plain (y_pick_f rfl rfl rfl) rfl rfl rfl H87 ?_
                  clear H87; intro a88 H88
                  refine plain (y_move rfl rfl) rfl rfl rfl H88 ?_
                  clear H88; intro a89 H89
                  refine Sx.part (d := 38) H89 rfl (fun hg90 => ?_) (fun hg90 => ?_)
                  · first
                    | fail
                    | skip
                      clear H89; intro H91
                      try simp only [decide_eq_true_eq, decide_eq_false_iff_not, Bool.not_eq_true', Bool.not_eq_false', Bool.and_eq_true, Bool.not_eq_true, Bool.not_eq_false] at hg90
                      refine plain (y_fieldB rfl z_field46_2 rfl (by first | (simp only [Nat.zero_add, Nat.add_zero, Nat.reduceAdd]; rfl) | rfl)) rfl rfl rfl H91 ?_
                      clear H91; intro a92 H92
                      refine plain (y_loadB rfl z_agg3 rfl (by repeat (first | exact Mh | apply Mt)) q_ix_c4_2) rfl rfl rfl H92 ?_
                      clear H92; intro a93 H93
                      refine plain (y_eql rfl rfl rfl) rfl rfl rfl H93 ?_
                      clear H93; intro a94 H94
                      refine plain (y_pick_t rfl rfl rfl) rfl rfl rfl H94 ?_
                      clear H94; intro a95 H95
                      refine plain (y_assign rfl rfl) rfl rfl rfl H95 ?_
                      clear H95; intro a96 H96
                      refine fin ?_
                      refine then_n ?_
                      refine wp_ret ?_
                      -- return 7
                      refine ret1 rfl H96 rfl ?_
                      try simp only [Note.text0] at *
                      refine ⟨_, [], rfl, ⟨?_, rfl⟩, H96.sep.sub (List.nil_sublist _)⟩
                      clear H96
                      rw [Note.Item.ok_is]
                      first | exact congrArg Value.bool (decide_eq_decide.2 (by omega)) | exact congrArg Value.bool (decide_eq_false (by omega)).symm | exact congrArg Value.bool (decide_eq_true (by omega)).symm
                  · first
                    | fail
                    | skip
                      clear H89; intro H97
                      try simp only [decide_eq_true_eq, decide_eq_false_iff_not, Bool.not_eq_true', Bool.not_eq_false', Bool.and_eq_true, Bool.not_eq_true, Bool.not_eq_false] at hg90
                      refine skip rfl rfl rfl H97 ?_
                      clear H97; intro a98 H98
                      refine skip rfl rfl rfl H98 ?_
                      clear H98; intro a99 H99
                      refine skip rfl rfl rfl H99 ?_
                      clear H99; intro a100 H100
                      refine plain (y_pick_f rfl rfl rfl) rfl rfl rfl H100 ?_
                      clear H100; intro a101 H101
                      refine plain (y_assign rfl rfl) rfl rfl rfl H101 ?_
                      clear H101; intro a102 H102
                      refine fin ?_
                      refine then_n ?_
                      refine wp_ret ?_
                      -- return 8
                      refine ret1 rfl H102 rfl ?_
                      try simp only [Note.text0] at *
                      refine ⟨_, [], rfl, ⟨?_, rfl⟩, H102.sep.sub (List.nil_sublist _)⟩
                      clear H102
                      rw [Note.Item.ok_is]
                      first | exact congrArg Value.bool (decide_eq_decide.2 (by omega)) | exact congrArg Value.bool (decide_eq_false (by omega)).symm | exact congrArg Value.bool (decide_eq_true (by omega)).symm
set_option maxRecDepth 100000 in
set_option maxHeartbeats 2000000 in
theorem rreaditem (s : List UInt8) (hs : s.length ≤ 140737488351232) {w : World}  : Calls Tryd.prog 32 #[str s] w (Gives (.tuple #[.agg (Note.Item.cells (Note.readItem s).1).toArray, .int .i64 (Note.readItem s).2]) [] w) := by
  have hwl := Note.whole_len (s := s)
  have hLb := Note.whole_le (s := s)
  have lz32 : (List.replicate 32 (0 : UInt8)).length = 32 := List.length_replicate
  refine enterL (args := [str s]) Tryd.func32 rfl rfl (l := []) (Sep.refl _) ?_
  intro a0 H0
  refine wp_seq ?_
  refine reg ?_
  refine st_alloc rfl z_zeroN46 rfl rfl rfl H0 ?_
  clear H0; intro b1 a1 wx1 H1
  refine plain (y_assign rfl rfl) rfl rfl rfl H1 ?_
  clear H1; intro a2 H2
  refine fin ?_
  refine then_n ?_
  refine wp_seq ?_
  refine reg ?_
  refine plain (y_move rfl rfl) rfl rfl rfl H2 ?_
  clear H2; intro a3 H3
  refine st_call rfl z_call52 rfl rfl rfl rfl H3 (rwhole s (by omega) _) ?_
  clear H3; intro v4 l4 a4 wx4 hf4 H4
  obtain ⟨vt4, rfl, rfl⟩ := hf4
  simp only [List.cons_append, List.nil_append] at H4
  obtain ⟨ArL, crL, hvrL, hRrL, hmrL⟩ := row_shape (v := vt4) H4.sep (by repeat (first | exact Mh | apply Mt))
  subst hvrL
  refine plain (y_move rfl rfl) rfl rfl rfl H4 ?_
  clear H4; intro a5 H5
  refine plain (y_extract rfl rfl rfl) rfl rfl rfl H5 ?_
  clear H5; intro a6 H6
  refine plain (y_extract rfl rfl rfl) rfl rfl rfl H6 ?_
  clear H6; intro a7 H7
  refine plain (y_assign rfl rfl) rfl rfl rfl H7 ?_
  clear H7; intro a8 H8
  refine plain (y_assign rfl rfl) rfl rfl rfl H8 ?_
  clear H8; intro a9 H9
  refine fin ?_
  refine then_n ?_
  refine wp_seq ?_
  refine reg ?_
  refine plain (y_move rfl rfl) rfl rfl rfl H9 ?_
  clear H9; intro a10 H10
  refine st_call rfl z_call53 rfl rfl rfl rfl H10 (rnumbers (Note.whole s).1 Note.whole_le 3 (by decide) _ _ _ rfl (by have := Note.whole_len (s := s); omega) (Rd.ofSep (rd_row (by repeat (first | exact Mh | apply Mt))) H10.sep)) ?_
  clear H10; intro v11 l11 a11 wx11 hf11 H11
  rcases hf11 with ⟨vn, ns, hfi, rfl, rfl, hnl, hnr⟩ | ⟨hfi, rfl, rfl⟩
  · skip
    obtain ⟨n0, n1, n2, rfl⟩ := Note.three hnl
    simp only [List.cons_append, List.nil_append] at H11
    obtain ⟨An, cn, hvn, hRn, hmn⟩ := row_shape (v := vn) H11.sep (List.Mem.head _)
    subst hvn
    refine plain (y_move rfl rfl) rfl rfl rfl H11 ?_
    clear H11; intro a12 H12
    refine plain (y_extract rfl rfl rfl) rfl rfl rfl H12 ?_
    clear H12; intro a13 H13
    refine plain (y_extract rfl rfl rfl) rfl rfl rfl H13 ?_
    clear H13; intro a14 H14
    refine plain (y_assign rfl rfl) rfl rfl rfl H14 ?_
    clear H14; intro a15 H15
    refine plain (y_assign rfl rfl) rfl rfl rfl H15 ?_
    clear H15; intro a16 H16
    refine fin ?_
    refine then_n ?_
    refine wp_seq ?_
    refine wp_seq ?_
    refine reg ?_
    refine plain (y_move rfl rfl) rfl rfl rfl H16 ?_
    clear H16; intro a17 H17
    refine plain (y_neq rfl rfl rfl) rfl rfl rfl H17 ?_
    clear H17; intro a18 H18
    refine plain (y_move rfl rfl) rfl rfl rfl H18 ?_
    clear H18; intro a19 H19
    refine Sx.part (d := 21) H19 rfl (fun hg20 => ?_) (fun hg20 => ?_)
    · first
      | fail
      | skip
        clear H19; intro H21
        try simp only [decide_eq_true_eq, decide_eq_false_iff_not, Bool.not_eq_true', Bool.not_eq_false', Bool.and_eq_true, Bool.not_eq_true, Bool.not_eq_false] at hg20
        refine skip rfl rfl rfl H21 ?_
        clear H21; intro a22 H22
        refine skip rfl rfl rfl H22 ?_
        clear H22; intro a23 H23
        refine plain (y_pick_t rfl rfl rfl) rfl rfl rfl H23 ?_
        clear H23; intro a24 H24
        refine plain (y_move rfl rfl) rfl rfl rfl H24 ?_
        clear H24; intro a25 H25
        refine skip rfl rfl rfl H25 ?_
        clear H25; intro a26 H26
        refine skip rfl rfl rfl H26 ?_
        clear H26; intro a27 H27
        refine skip rfl rfl rfl H27 ?_
        clear H27; intro a28 H28
        refine plain (y_pick_t rfl rfl rfl) rfl rfl rfl H28 ?_
        clear H28; intro a29 H29
        refine fin ?_
        refine then_n ?_
        refine cnd_t H29 rfl ?_
        refine wp_seq ?_
        refine reg ?_
        refine plain (y_build rfl z_zeroN46 z_places46 rfl lay_n) rfl rfl rfl H29 ?_
        clear H29; intro a31 H31
        refine st_storeN rfl z_size46 rfl rfl (agg_cells _) (by repeat (first | exact Uh | apply Ut)) (q_one_c4 rfl rfl rfl rfl) q_len_c4 q_len_c4 q_spl_c4_0_c4 (by decide) rfl rfl H31 ?_
        clear H31; intro wx32 H32
        refine plain (y_assign rfl rfl) rfl rfl rfl H32 ?_
        clear H32; intro a33 H33
        refine fin ?_
        refine then_n ?_
        refine wp_ret ?_
        refine then_r ?_
        -- return 1
        refine retct rfl H33 rfl z_agg46 z_size46 (by repeat (first | exact Mh | apply Mt)) q_len_c4 rfl ?_
        refine ⟨_, [], rfl, ⟨?_, rfl⟩, H33.sep.sub (List.nil_sublist _)⟩
        first | (rw [Note.readItem_none (by first | exact Note.fields_none2 hfi | exact Note.fields_none1 (by assumption))]; rfl) | (rw [Note.readItem_bad (Note.fields_some (by assumption) hfi) (by rintro ⟨h1, h2⟩; simp only [List.length_drop] at h1; omega)]; rfl) | (rw [Note.readItem_bad hfs (by rintro ⟨h1, h3⟩; exact Bool.noConfusion (h3.symm.trans (show (Note.itemOf [n0, n1, n2] ((Note.whole s).1.drop 3)).ok = false by assumption)))]; rfl) | (rw [Note.readItem_good hfs ⟨by simp only [List.length_drop]; omega, by assumption⟩]; rfl)
    · first
      | fail
      | skip
        clear H19; intro H34
        try simp only [decide_eq_true_eq, decide_eq_false_iff_not, Bool.not_eq_true', Bool.not_eq_false', Bool.and_eq_true, Bool.not_eq_true, Bool.not_eq_false] at hg20
        refine plain (y_move rfl rfl) rfl rfl rfl H34 ?_
        clear H34; intro a35 H35
        refine plain (y_not rfl rfl) rfl rfl rfl H35 ?_
        clear H35; intro a36 H36
        refine plain (y_pick_f rfl rfl rfl) rfl rfl rfl H36 ?_
        clear H36; intro a37 H37
        refine plain (y_move rfl rfl) rfl rfl rfl H37 ?_
        clear H37; intro a38 H38
        refine plain (y_move rfl rfl) rfl rfl rfl H38 ?_
        clear H38; intro a39 H39
        refine plain (y_len rfl Tryd.underlying49 rfl) rfl rfl rfl H39 ?_
        clear H39; intro a40 H40
        refine plain (y_neq rfl rfl rfl) rfl rfl rfl H40 ?_
        clear H40; intro a41 H41
        refine plain (y_pick_f rfl rfl rfl) rfl rfl rfl H41 ?_
        clear H41; intro a42 H42
        refine fin ?_
        refine then_n ?_
        refine cnd H42 rfl (fun hc43 => ?_) (fun hc43 => ?_) -- cond 2
        · skip
          try simp only [decide_eq_true_eq, decide_eq_false_iff_not, Bool.not_eq_true', Bool.not_eq_false', Bool.and_eq_true, Bool.not_eq_true, Bool.not_eq_false] at hc43
          refine wp_seq ?_
          refine reg ?_
          refine plain (y_build rfl z_zeroN46 z_places46 rfl lay_n) rfl rfl rfl H42 ?_
          clear H42; intro a44 H44
          refine st_storeN rfl z_size46 rfl rfl (agg_cells _) (by repeat (first | exact Uh | apply Ut)) (q_one_c4 rfl rfl rfl rfl) q_len_c4 q_len_c4 q_spl_c4_0_c4 (by decide) rfl rfl H44 ?_
          clear H44; intro wx45 H45
          refine plain (y_assign rfl rfl) rfl rfl rfl H45 ?_
          clear H45; intro a46 H46
          refine fin ?_
          refine then_n ?_
          refine wp_ret ?_
          refine then_r ?_
          -- return 2
          refine retct rfl H46 rfl z_agg46 z_size46 (by repeat (first | exact Mh | apply Mt)) q_len_c4 rfl ?_
          refine ⟨_, [], rfl, ⟨?_, rfl⟩, H46.sep.sub (List.nil_sublist _)⟩
          first | (rw [Note.readItem_none (by first | exact Note.fields_none2 hfi | exact Note.fields_none1 (by assumption))]; rfl) | (rw [Note.readItem_bad (Note.fields_some (by assumption) hfi) (by rintro ⟨h1, h2⟩; simp only [List.length_drop] at h1; omega)]; rfl) | (rw [Note.readItem_bad hfs (by rintro ⟨h1, h3⟩; exact Bool.noConfusion (h3.symm.trans (show (Note.itemOf [n0, n1, n2] ((Note.whole s).1.drop 3)).ok = false by assumption)))]; rfl) | (rw [Note.readItem_good hfs ⟨by simp only [List.length_drop]; omega, by assumption⟩]; rfl)
        · skip
          try simp only [decide_eq_true_eq, decide_eq_false_iff_not, Bool.not_eq_true', Bool.not_eq_false', Bool.and_eq_true, Bool.not_eq_true, Bool.not_eq_false] at hc43
          refine wp_skip ?_
          refine then_n ?_
          refine wp_seq ?_
          have hfs := Note.fields_some (by assumption) hfi
          refine hreg _ (fun _ h => h) (by kernel_rfl) H42 ?_
          clear H42; intro wx47 H47
          refine htake 0 rfl (by kernel_rfl) (y_move rfl rfl) rfl rfl rfl (fun _ h => (h.sub (by first | exact S0 | exact S1 | repeat (first | exact S1 | exact S0 | apply S2 | apply S3)))) H47 ?_
          clear H47; intro a48 H48
          refine htake 1 rfl (by kernel_rfl) (y_ixR rfl Tryd.underlying83 z_size3 rfl rfl (by omega) (by omega) (rd_row (by repeat (first | exact Mh | apply Mt))) (by rw [List.length_map]; first | omega | (simp; done))) rfl rfl rfl (fun _ h => (h.sub (by first | exact S0 | exact S1 | repeat (first | exact S1 | exact S0 | apply S2 | apply S3)))) H48 ?_
          clear H48; intro a49 H49
          refine htake 2 rfl (by kernel_rfl) (y_loadR rfl z_agg3 rfl (rd_row (by repeat (first | exact Mh | apply Mt))) rfl) rfl rfl rfl (fun _ h => (h.sub (by first | exact S0 | exact S1 | repeat (first | exact S1 | exact S0 | apply S2 | apply S3)))) H49 ?_
          clear H49; intro a50 H50
          refine htake 3 rfl (by kernel_rfl) (y_move rfl rfl) rfl rfl rfl (fun _ h => (h.sub (by first | exact S0 | exact S1 | repeat (first | exact S1 | exact S0 | apply S2 | apply S3)))) H50 ?_
          clear H50; intro a51 H51
          refine htake 4 rfl (by kernel_rfl) (y_ixR rfl Tryd.underlying83 z_size3 rfl rfl (by omega) (by omega) (rd_row (by repeat (first | exact Mh | apply Mt))) (by rw [List.length_map]; first | omega | (simp; done))) rfl rfl rfl (fun _ h => (h.sub (by first | exact S0 | exact S1 | repeat (first | exact S1 | exact S0 | apply S2 | apply S3)))) H51 ?_
          clear H51; intro a52 H52
          refine htake 5 rfl (by kernel_rfl) (y_loadR rfl z_agg3 rfl (rd_row (by repeat (first | exact Mh | apply Mt))) rfl) rfl rfl rfl (fun _ h => (h.sub (by first | exact S0 | exact S1 | repeat (first | exact S1 | exact S0 | apply S2 | apply S3)))) H52 ?_
          clear H52; intro a53 H53
          refine htake 6 rfl (by kernel_rfl) (y_move rfl rfl) rfl rfl rfl (fun _ h => (h.sub (by first | exact S0 | exact S1 | repeat (first | exact S1 | exact S0 | apply S2 | apply S3)))) H53 ?_
          clear H53; intro a54 H54
          refine htake 7 rfl (by kernel_rfl) (y_ixR rfl Tryd.underlying83 z_size3 rfl rfl (by omega) (by omega) (rd_row (by repeat (first | exact Mh | apply Mt))) (by rw [List.length_map]; first | omega | (simp; done))) rfl rfl rfl (fun _ h => (h.sub (by first | exact S0 | exact S1 | repeat (first | exact S1 | exact S0 | apply S2 | apply S3)))) H54 ?_
          clear H54; intro a55 H55
          refine htake 8 rfl (by kernel_rfl) (y_loadR rfl z_agg3 rfl (rd_row (by repeat (first | exact Mh | apply Mt))) rfl) rfl rfl rfl (fun _ h => (h.sub (by first | exact S0 | exact S1 | repeat (first | exact S1 | exact S0 | apply S2 | apply S3)))) H55 ?_
          clear H55; intro a56 H56
          refine htake 9 rfl (by kernel_rfl) (y_move rfl rfl) rfl rfl rfl (fun _ h => (h.sub (by first | exact S0 | exact S1 | repeat (first | exact S1 | exact S0 | apply S2 | apply S3)))) H56 ?_
          clear H56; intro a57 H57
          refine htake 10 rfl (by kernel_rfl) (y_ixR rfl Tryd.underlying49 z_size9 rfl rfl (by omega) (by omega) (rd_row (by repeat (first | exact Mh | apply Mt))) (by rw [List.length_map]; first | omega | (simp; done))) rfl rfl rfl (fun _ h => (h.sub (by first | exact S0 | exact S1 | repeat (first | exact S1 | exact S0 | apply S2 | apply S3)))) H57 ?_
          clear H57; intro a58 H58
          refine htake 11 rfl (by kernel_rfl) (y_loadR rfl z_agg9 rfl (rd_row (by repeat (first | exact Mh | apply Mt))) (Note.rest_at 3 0 (by omega))) rfl rfl rfl (fun _ h => (h.sub (by first | exact S0 | exact S1 | repeat (first | exact S1 | exact S0 | apply S2 | apply S3)))) H58 ?_
          clear H58; intro a59 H59
          refine htake 12 rfl (by kernel_rfl) (y_build rfl z_zeroN46 z_places46 rfl (lay_1 (off := 0) (n := 4) rfl q_len_c4 (by decide) q_spl_c4_0_c1 (lay_1 (off := 1) (n := 4) rfl q_len_c4 (by decide) q_spl_c4_1_c1 (lay_1 (off := 2) (n := 4) rfl q_len_c4 (by decide) q_spl_c4_2_c1 (lay_1 (off := 3) (n := 4) rfl q_len_c4 (by decide) q_spl_c4_3_c1 lay_n (by rfl)) (by rfl)) (by rfl)) (by rfl))) rfl rfl rfl (fun _ h => (h.sub (by first | exact S0 | exact S1 | repeat (first | exact S1 | exact S0 | apply S2 | apply S3)))) H59 ?_
          clear H59; intro a60 H60
          refine hgo 13 rfl (by kernel_rfl) ?_
          refine st_alloc rfl z_zeroN46 rfl rfl rfl H60 ?_
          clear H60; intro b61 a61 wx61 H61
          refine hfin (H61.sep.sub (by first | exact S0 | exact S1 | repeat (first | exact S1 | exact S0 | apply S2 | apply S3))) ?_
          refine hgo 14 rfl (by kernel_rfl) ?_
          refine st_storeN rfl z_size46 rfl rfl (agg_cells _) (by repeat (first | exact Uh | apply Ut)) (q_one_c4 rfl rfl rfl rfl) q_len_c4 q_len_c4 q_spl_c4_0_c4 (by decide) rfl rfl H61 ?_
          clear H61; intro wx62 H62
          refine hfin (H62.sep.sub (by first | exact S0 | exact S1 | repeat (first | exact S1 | exact S0 | apply S2 | apply S3))) ?_
          refine hdone (by kernel_rfl) ?_
          refine then_n ?_
          refine wp_seq ?_
          refine wp_seq ?_
          have wfi : Note.Item.Wf (Note.itemOf [n0, n1, n2] ((Note.whole s).1.drop 3)) := Note.wf3i hnr hLb (by simp only [List.length_drop]; omega)
          refine reg ?_
          refine plain (y_loadAB rfl z_agg46 z_size46 rfl (by repeat (first | exact Mh | apply Mt)) q_ld_c4_0_4 q_len_c4) rfl rfl rfl H62 ?_
          clear H62; intro a63 H63
          refine st_callg rfl z_call50 rfl rfl rfl rfl H63 (ritem (Note.itemOf [n0, n1, n2] ((Note.whole s).1.drop 3)) wfi _) ?_
          clear H63; intro a64 wx64 H64
          refine plain ((by first | exact y_not_d rfl rfl | exact y_not rfl rfl)) rfl rfl rfl H64 ?_
          clear H64; intro a65 H65
          refine fin ?_
          refine then_n ?_
          refine cnd H65 rfl (fun hc66 => ?_) (fun hc66 => ?_) -- cond 3
          · skip
            try simp only [decide_eq_true_eq, decide_eq_false_iff_not, Bool.not_eq_true', Bool.not_eq_false', Bool.and_eq_true, Bool.not_eq_true, Bool.not_eq_false] at hc66
            refine wp_seq ?_
            refine reg ?_
            refine plain (y_build rfl z_zeroN46 z_places46 rfl lay_n) rfl rfl rfl H65 ?_
            clear H65; intro a67 H67
            refine st_storeN rfl z_size46 rfl rfl (agg_cells _) (by repeat (first | exact Uh | apply Ut)) (q_one_c4 rfl rfl rfl rfl) q_len_c4 q_len_c4 q_spl_c4_0_c4 (by decide) rfl rfl H67 ?_
            clear H67; intro wx68 H68
            refine plain (y_assign rfl rfl) rfl rfl rfl H68 ?_
            clear H68; intro a69 H69
            refine fin ?_
            refine then_n ?_
            refine wp_ret ?_
            refine then_r ?_
            -- return 3
            refine retct rfl H69 rfl z_agg46 z_size46 (by repeat (first | exact Mh | apply Mt)) q_len_c4 rfl ?_
            refine ⟨_, [], rfl, ⟨?_, rfl⟩, H69.sep.sub (List.nil_sublist _)⟩
            first | (rw [Note.readItem_none (by first | exact Note.fields_none2 hfi | exact Note.fields_none1 (by assumption))]; rfl) | (rw [Note.readItem_bad (Note.fields_some (by assumption) hfi) (by rintro ⟨h1, h2⟩; simp only [List.length_drop] at h1; omega)]; rfl) | (rw [Note.readItem_bad hfs (by rintro ⟨h1, h3⟩; exact Bool.noConfusion (h3.symm.trans (show (Note.itemOf [n0, n1, n2] ((Note.whole s).1.drop 3)).ok = false by assumption)))]; rfl) | (rw [Note.readItem_good hfs ⟨by simp only [List.length_drop]; omega, by assumption⟩]; rfl)
          · skip
            try simp only [decide_eq_true_eq, decide_eq_false_iff_not, Bool.not_eq_true', Bool.not_eq_false', Bool.and_eq_true, Bool.not_eq_true, Bool.not_eq_false] at hc66
            refine wp_skip ?_
            refine then_n ?_
            refine wp_seq ?_
            refine reg ?_
            refine plain (y_loadAB rfl z_agg46 z_size46 rfl (by repeat (first | exact Mh | apply Mt)) q_ld_c4_0_4 q_len_c4) rfl rfl rfl H65 ?_
            clear H65; intro a70 H70
            refine st_storeN rfl z_size46 rfl rfl (agg_cells _) (by repeat (first | exact Uh | apply Ut)) (q_one_c4 rfl rfl rfl rfl) q_len_c4 q_len_c4 q_spl_c4_0_c4 (by decide) rfl rfl H70 ?_
            clear H70; intro wx71 H71
            refine plain (y_assign rfl rfl) rfl rfl rfl H71 ?_
            clear H71; intro a72 H72
            refine fin ?_
            refine then_n ?_
            refine wp_ret ?_
            -- return 4
            refine retct rfl H72 rfl z_agg46 z_size46 (by repeat (first | exact Mh | apply Mt)) q_len_c4 rfl ?_
            refine ⟨_, [], rfl, ⟨?_, rfl⟩, H72.sep.sub (List.nil_sublist _)⟩
            first | (rw [Note.readItem_none (by first | exact Note.fields_none2 hfi | exact Note.fields_none1 (by assumption))]; rfl) | (rw [Note.readItem_bad (Note.fields_some (by assumption) hfi) (by rintro ⟨h1, h2⟩; simp only [List.length_drop] at h1; omega)]; rfl) | (rw [Note.readItem_bad hfs (by rintro ⟨h1, h3⟩; exact Bool.noConfusion (h3.symm.trans (show (Note.itemOf [n0, n1, n2] ((Note.whole s).1.drop 3)).ok = false by assumption)))]; rfl) | (rw [Note.readItem_good hfs ⟨by simp only [List.length_drop]; omega, by assumption⟩]; rfl)
  · skip
    simp only [List.nil_append] at H11
    refine plain (y_move rfl rfl) rfl rfl rfl H11 ?_
    clear H11; intro a73 H73
    refine plain (y_extract rfl rfl rfl) rfl rfl rfl H73 ?_
    clear H73; intro a74 H74
    refine plain (y_extract rfl rfl rfl) rfl rfl rfl H74 ?_
    clear H74; intro a75 H75
    refine plain (y_assign rfl rfl) rfl rfl rfl H75 ?_
    clear H75; intro a76 H76
    refine plain (y_assign rfl rfl) rfl rfl rfl H76 ?_
    clear H76; intro a77 H77
    refine fin ?_
    refine then_n ?_
    refine wp_seq ?_
    refine wp_seq ?_
    refine reg ?_
    refine plain (y_move rfl rfl) rfl rfl rfl H77 ?_
    clear H77; intro a78 H78
    refine plain (y_neq rfl rfl rfl) rfl rfl rfl H78 ?_
    clear H78; intro a79 H79
    refine plain (y_move rfl rfl) rfl rfl rfl H79 ?_
    clear H79; intro a80 H80
    refine Sx.part (d := 21) H80 rfl (fun hg81 => ?_) (fun hg81 => ?_)
    · first
      | fail
      | skip
        clear H80; intro H82
        try simp only [decide_eq_true_eq, decide_eq_false_iff_not, Bool.not_eq_true', Bool.not_eq_false', Bool.and_eq_true, Bool.not_eq_true, Bool.not_eq_false] at hg81
        refine skip rfl rfl rfl H82 ?_
        clear H82; intro a83 H83
        refine skip rfl rfl rfl H83 ?_
        clear H83; intro a84 H84
        refine plain (y_pick_t rfl rfl rfl) rfl rfl rfl H84 ?_
        clear H84; intro a85 H85
        refine plain (y_move rfl rfl) rfl rfl rfl H85 ?_
        clear H85; intro a86 H86
        refine skip rfl rfl rfl H86 ?_
        clear H86; intro a87 H87
        refine skip rfl rfl rfl H87 ?_
        clear H87; intro a88 H88
        refine skip rfl rfl rfl H88 ?_
        clear H88; intro a89 H89
        refine plain (y_pick_t rfl rfl rfl) rfl rfl rfl H89 ?_
        clear H89; intro a90 H90
        refine fin ?_
        refine then_n ?_
        refine cnd_t H90 rfl ?_
        refine wp_seq ?_
        refine reg ?_
        refine plain (y_build rfl z_zeroN46 z_places46 rfl lay_n) rfl rfl rfl H90 ?_
        clear H90; intro a92 H92
        refine st_storeN rfl z_size46 rfl rfl (agg_cells _) (by repeat (first | exact Uh | apply Ut)) (q_one_c4 rfl rfl rfl rfl) q_len_c4 q_len_c4 q_spl_c4_0_c4 (by decide) rfl rfl H92 ?_
        clear H92; intro wx93 H93
        refine plain (y_assign rfl rfl) rfl rfl rfl H93 ?_
        clear H93; intro a94 H94
        refine fin ?_
        refine then_n ?_
        refine wp_ret ?_
        refine then_r ?_
        -- return 5
        refine retct rfl H94 rfl z_agg46 z_size46 (by repeat (first | exact Mh | apply Mt)) q_len_c4 rfl ?_
        refine ⟨_, [], rfl, ⟨?_, rfl⟩, H94.sep.sub (List.nil_sublist _)⟩
        first | (rw [Note.readItem_none (by first | exact Note.fields_none2 hfi | exact Note.fields_none1 (by assumption))]; rfl) | (rw [Note.readItem_bad (Note.fields_some (by assumption) hfi) (by rintro ⟨h1, h2⟩; simp only [List.length_drop] at h1; omega)]; rfl) | (rw [Note.readItem_bad hfs (by rintro ⟨h1, h3⟩; exact Bool.noConfusion (h3.symm.trans (show (Note.itemOf [n0, n1, n2] ((Note.whole s).1.drop 3)).ok = false by assumption)))]; rfl) | (rw [Note.readItem_good hfs ⟨by simp only [List.length_drop]; omega, by assumption⟩]; rfl)
    · first
      | fail
      | skip
        clear H80; intro H95
        try simp only [decide_eq_true_eq, decide_eq_false_iff_not, Bool.not_eq_true', Bool.not_eq_false', Bool.and_eq_true, Bool.not_eq_true, Bool.not_eq_false] at hg81
        refine plain (y_move rfl rfl) rfl rfl rfl H95 ?_
        clear H95; intro a96 H96
        refine plain (y_not rfl rfl) rfl rfl rfl H96 ?_
        clear H96; intro a97 H97
        refine plain (y_pick_f rfl rfl rfl) rfl rfl rfl H97 ?_
        clear H97; intro a98 H98
        refine plain (y_move rfl rfl) rfl rfl rfl H98 ?_
        clear H98; intro a99 H99
        refine skip rfl rfl rfl H99 ?_
        clear H99; intro a100 H100
        refine skip rfl rfl rfl H100 ?_
        clear H100; intro a101 H101
        refine skip rfl rfl rfl H101 ?_
        clear H101; intro a102 H102
        refine plain (y_pick_t rfl rfl rfl) rfl rfl rfl H102 ?_
        clear H102; intro a103 H103
        refine fin ?_
        refine then_n ?_
        refine cnd_t H103 rfl ?_
        refine wp_seq ?_
        refine reg ?_
        refine plain (y_build rfl z_zeroN46 z_places46 rfl lay_n) rfl rfl rfl H103 ?_
        clear H103; intro a105 H105
        refine st_storeN rfl z_size46 rfl rfl (agg_cells _) (by repeat (first | exact Uh | apply Ut)) (q_one_c4 rfl rfl rfl rfl) q_len_c4 q_len_c4 q_spl_c4_0_c4 (by decide) rfl rfl H105 ?_
        clear H105; intro wx106 H106
        refine plain (y_assign rfl rfl) rfl rfl rfl H106 ?_
        clear H106; intro a107 H107
        refine fin ?_
        refine then_n ?_
        refine wp_ret ?_
        refine then_r ?_
        -- return 6
        refine retct rfl H107 rfl z_agg46 z_size46 (by repeat (first | exact Mh | apply Mt)) q_len_c4 rfl ?_
        refine ⟨_, [], rfl, ⟨?_, rfl⟩, H107.sep.sub (List.nil_sublist _)⟩
        first | (rw [Note.readItem_none (by first | exact Note.fields_none2 hfi | exact Note.fields_none1 (by assumption))]; rfl) | (rw [Note.readItem_bad (Note.fields_some (by assumption) hfi) (by rintro ⟨h1, h2⟩; simp only [List.length_drop] at h1; omega)]; rfl) | (rw [Note.readItem_bad hfs (by rintro ⟨h1, h3⟩; exact Bool.noConfusion (h3.symm.trans (show (Note.itemOf [n0, n1, n2] ((Note.whole s).1.drop 3)).ok = false by assumption)))]; rfl) | (rw [Note.readItem_good hfs ⟨by simp only [List.length_drop]; omega, by assumption⟩]; rfl)

end Go.Proofs.YtnnhnnhdoipbaaaDoor.N_RefI

set_option linter.unusedVariables false
set_option linter.unusedSimpArgs false
namespace Go.Proofs.YtnnhnnhdoipbaaaDoor.N_RefR
open Go.Sx Go.RowKit Go.Proofs.YtnnhnnhdoipbaaaDoor.N_Block Go.Proofs.YtnnhnnhdoipbaaaDoor.N_Sum Go.Proofs.YtnnhnnhdoipbaaaDoor.N_Ref Go.Proofs.YtnnhnnhdoipbaaaDoor.N_RSum Go.Proofs.YtnnhnnhdoipbaaaDoor.N_Leaf Go.Proofs.YtnnhnnhdoipbaaaDoor.N_Num Go.Proofs.YtnnhnnhdoipbaaaDoor.N_Key Go.Proofs.YtnnhnnhdoipbaaaDoor.N_Ref Go.Proofs.YtnnhnnhdoipbaaaDoor.N_RSum Go.Proofs.YtnnhnnhdoipbaaaDoor.N_Tag Go.Proofs.YtnnhnnhdoipbaaaDoor.N_Read Go.Proofs.YtnnhnnhdoipbaaaDoor.N_Lay Go.Proofs.YtnnhnnhdoipbaaaDoor.N_Eq Go.Proofs.YtnnhnnhdoipbaaaDoor.N_Ref0

theorem z_zeroN35 : zeroL Tryd.prog 35 = some ((.int .i64 0 :: (.int .i64 0 :: (.int .i64 0 :: (.string ⟨#[]⟩ :: ((List.replicate 32 (0 : UInt8)).map u8 ++ (List.replicate 32 (0 : UInt8)).map u8)))))) := by kernel_rfl
theorem z_call45 : callB Tryd.prog 45 = true := by kernel_rfl
theorem z_places35 : placesB Tryd.prog 35 = some [(0, 1), (1, 1), (2, 1), (3, 1), (4, 32), (36, 32)] := by kernel_rfl
theorem z_size35 : sizeB Tryd.prog 35 = some 68 := by kernel_rfl
theorem q_one_c4b32b32 {a0 a1 a2 a3 : Value} {t4 t5 : List UInt8} (o0 : a0.oneCell' = true) (o1 : a1.oneCell' = true) (o2 : a2.oneCell' = true) (o3 : a3.oneCell' = true) : (a0 :: a1 :: a2 :: a3 :: (t4.map u8 ++ (t5.map u8))).all (·.oneCell') = true := (one_c o0 (one_c o1 (one_c o2 (one_c o3 (one_b (one_u8 _))))))
theorem q_len_c4b32b32 {a0 a1 a2 a3 : Value} {t4 t5 : List UInt8} (h4 : t4.length = 32) (h5 : t5.length = 32) : (a0 :: a1 :: a2 :: a3 :: (t4.map u8 ++ (t5.map u8))).length = 68 := (len_c (n := 67) (len_c (n := 66) (len_c (n := 65) (len_c (n := 64) (len_b (k := 32) (n := 32) h4 (len_e (k := 32) h5))))))
theorem q_spl_c4b32b32_0_c4b32b32 {a0 a1 a2 a3 : Value} {t4 t5 : List UInt8} {b0 b1 b2 b3 : Value} {s4 s5 : List UInt8} (h4 : t4.length = 32) (h5 : t5.length = 32) (g4 : s4.length = 32) (g5 : s5.length = 32) : spl (a0 :: a1 :: a2 :: a3 :: (t4.map u8 ++ (t5.map u8))) 0 (b0 :: b1 :: b2 :: b3 :: (s4.map u8 ++ (s5.map u8))) = b0 :: b1 :: b2 :: b3 :: (s4.map u8 ++ (s5.map u8)) := (spl_a (z := 68) (len_c (n := 67) (len_c (n := 66) (len_c (n := 65) (len_c (n := 64) (len_b (k := 32) (n := 32) h4 (len_e (k := 32) h5)))))) (len_c (n := 67) (len_c (n := 66) (len_c (n := 65) (len_c (n := 64) (len_b (k := 32) (n := 32) g4 (len_e (k := 32) g5)))))))
theorem z_agg35 : aggB Tryd.prog 35 = some true := by kernel_rfl
theorem z_call39 : callB Tryd.prog 39 = true := by kernel_rfl
theorem z_size9 : sizeB Tryd.prog 9 = some 1 := by kernel_rfl
theorem z_zero9 : zeroL Tryd.prog 9 = some ([.string ⟨#[]⟩]) := by kernel_rfl
theorem z_call38 : callB Tryd.prog 38 = true := by kernel_rfl
theorem z_agg23 : aggB Tryd.prog 23 = some true := by kernel_rfl
theorem z_size23 : sizeB Tryd.prog 23 = some 32 := by kernel_rfl
theorem q_ld_b32_0_32 {t0 : List UInt8} (h0 : t0.length = 32) : ((t0.map u8).drop 0).take 32 = t0.map u8 := (ld_a (len_e (k := 32) h0))
theorem q_len_b32 {t0 : List UInt8} (h0 : t0.length = 32) : (t0.map u8).length = 32 := (len_e (k := 32) h0)
theorem z_call46 : callB Tryd.prog 46 = true := by kernel_rfl
theorem q_spl_c4b32b32_0_c1 {a0 a1 a2 a3 : Value} {t4 t5 : List UInt8} {b0 : Value} : spl (a0 :: a1 :: a2 :: a3 :: (t4.map u8 ++ (t5.map u8))) 0 (b0 :: []) = b0 :: a1 :: a2 :: a3 :: (t4.map u8 ++ (t5.map u8)) := spl_0
theorem q_spl_c4b32b32_1_c1 {a0 a1 a2 a3 : Value} {t4 t5 : List UInt8} {b0 : Value} : spl (a0 :: a1 :: a2 :: a3 :: (t4.map u8 ++ (t5.map u8))) 1 (b0 :: []) = a0 :: b0 :: a2 :: a3 :: (t4.map u8 ++ (t5.map u8)) := (spl_c (o := 0) spl_0)
theorem q_spl_c4b32b32_2_c1 {a0 a1 a2 a3 : Value} {t4 t5 : List UInt8} {b0 : Value} : spl (a0 :: a1 :: a2 :: a3 :: (t4.map u8 ++ (t5.map u8))) 2 (b0 :: []) = a0 :: a1 :: b0 :: a3 :: (t4.map u8 ++ (t5.map u8)) := (spl_c (o := 1) (spl_c (o := 0) spl_0))
theorem q_spl_c4b32b32_3_c1 {a0 a1 a2 a3 : Value} {t4 t5 : List UInt8} {b0 : Value} : spl (a0 :: a1 :: a2 :: a3 :: (t4.map u8 ++ (t5.map u8))) 3 (b0 :: []) = a0 :: a1 :: a2 :: b0 :: (t4.map u8 ++ (t5.map u8)) := (spl_c (o := 2) (spl_c (o := 1) (spl_c (o := 0) spl_0)))
theorem q_spl_c4b32b32_4_b32 {a0 a1 a2 a3 : Value} {t4 t5 : List UInt8} {s0 : List UInt8} (h4 : t4.length = 32) (g0 : s0.length = 32) : spl (a0 :: a1 :: a2 :: a3 :: (t4.map u8 ++ (t5.map u8))) 4 (s0.map u8) = a0 :: a1 :: a2 :: a3 :: (s0.map u8 ++ (t5.map u8)) := (spl_c (o := 3) (spl_c (o := 2) (spl_c (o := 1) (spl_c (o := 0) (spl_h (z := 32) (len_e h4) (len_e g0))))))
theorem q_spl_c4b32b32_36_b32 {a0 a1 a2 a3 : Value} {t4 t5 : List UInt8} {s0 : List UInt8} (h4 : t4.length = 32) (h5 : t5.length = 32) (g0 : s0.length = 32) : spl (a0 :: a1 :: a2 :: a3 :: (t4.map u8 ++ (t5.map u8))) 36 (s0.map u8) = a0 :: a1 :: a2 :: a3 :: (t4.map u8 ++ (s0.map u8)) := (spl_c (o := 35) (spl_c (o := 34) (spl_c (o := 33) (spl_c (o := 32) (spl_b (k := 32) (o := 0) h4 rfl (spl_a (z := 32) (len_e (k := 32) h5) (len_e (k := 32) g0)))))))
theorem z_field35_4 : fieldB Tryd.prog 35 4 = some 4 := by kernel_rfl
theorem q_ld_c4b32b32_4_32 {a0 a1 a2 a3 : Value} {t4 t5 : List UInt8} (h4 : t4.length = 32) : ((a0 :: a1 :: a2 :: a3 :: (t4.map u8 ++ (t5.map u8))).drop 4).take 32 = t4.map u8 := (ld_c (o := 3) (ld_c (o := 2) (ld_c (o := 1) (ld_c (o := 0) (ld_h h4)))))
theorem z_field35_0 : fieldB Tryd.prog 35 0 = some 0 := by kernel_rfl
theorem z_agg3 : aggB Tryd.prog 3 = some false := by kernel_rfl
theorem q_ix_c4b32b32_0 {a0 a1 a2 a3 : Value} {t4 t5 : List UInt8} : (a0 :: a1 :: a2 :: a3 :: (t4.map u8 ++ (t5.map u8)))[0]? = some a0 := ix_0
theorem z_field35_1 : fieldB Tryd.prog 35 1 = some 1 := by kernel_rfl
theorem q_ix_c4b32b32_1 {a0 a1 a2 a3 : Value} {t4 t5 : List UInt8} : (a0 :: a1 :: a2 :: a3 :: (t4.map u8 ++ (t5.map u8)))[1]? = some a1 := (ix_c (o := 0) ix_0)
theorem z_field35_2 : fieldB Tryd.prog 35 2 = some 2 := by kernel_rfl
theorem q_ix_c4b32b32_2 {a0 a1 a2 a3 : Value} {t4 t5 : List UInt8} : (a0 :: a1 :: a2 :: a3 :: (t4.map u8 ++ (t5.map u8)))[2]? = some a2 := (ix_c (o := 1) (ix_c (o := 0) ix_0))
theorem z_field35_3 : fieldB Tryd.prog 35 3 = some 3 := by kernel_rfl
theorem z_agg9 : aggB Tryd.prog 9 = some false := by kernel_rfl
theorem q_ix_c4b32b32_3 {a0 a1 a2 a3 : Value} {t4 t5 : List UInt8} : (a0 :: a1 :: a2 :: a3 :: (t4.map u8 ++ (t5.map u8)))[3]? = some a3 := (ix_c (o := 2) (ix_c (o := 1) (ix_c (o := 0) ix_0)))
theorem z_call20 : callB Tryd.prog 20 = true := by kernel_rfl
theorem q_ld_c4b32b32_0_68 {a0 a1 a2 a3 : Value} {t4 t5 : List UInt8} (h4 : t4.length = 32) (h5 : t5.length = 32) : ((a0 :: a1 :: a2 :: a3 :: (t4.map u8 ++ (t5.map u8))).drop 0).take 68 = a0 :: a1 :: a2 :: a3 :: (t4.map u8 ++ (t5.map u8)) := (ld_a (len_c (n := 67) (len_c (n := 66) (len_c (n := 65) (len_c (n := 64) (len_b (k := 32) (n := 32) h4 (len_e (k := 32) h5)))))))
theorem z_field35_5 : fieldB Tryd.prog 35 5 = some 36 := by kernel_rfl
theorem q_ld_c4b32b32_36_32 {a0 a1 a2 a3 : Value} {t4 t5 : List UInt8} (h4 : t4.length = 32) (h5 : t5.length = 32) : ((a0 :: a1 :: a2 :: a3 :: (t4.map u8 ++ (t5.map u8))).drop 36).take 32 = t5.map u8 := (ld_c (o := 35) (ld_c (o := 34) (ld_c (o := 33) (ld_c (o := 32) (ld_b (k := 32) (o := 0) h4 rfl (ld_a (len_e (k := 32) h5)))))))
theorem z_call40 : callB Tryd.prog 40 = true := by kernel_rfl
theorem z_call52 : callB Tryd.prog 52 = true := by kernel_rfl
theorem z_call53 : callB Tryd.prog 53 = true := by kernel_rfl
theorem z_size3 : sizeB Tryd.prog 3 = some 1 := by kernel_rfl
theorem z_call54 : callB Tryd.prog 54 = true := by kernel_rfl

set_option maxRecDepth 100000 in
set_option maxHeartbeats 1000000 in
theorem rlink (prev : List UInt8) (hp : prev.length = 32) (index kind time : Int) (hi : Note.I64 index) (hkd : Note.I64 kind) (hti : Note.I64 time) (body : List UInt8) (hbl : body.length ≤ 140737488351232) {w : World}  : Calls Tryd.prog 20 #[.agg (prev.map u8).toArray, .int .i64 index, .int .i64 kind, .int .i64 time, str body] w (Gives (.tuple #[.agg (Note.Receipt.cells (Note.link prev index kind time body).1).toArray, .int .i64 (Note.link prev index kind time body).2]) [] w) := by
  have lz32 : (List.replicate 32 (0 : UInt8)).length = 32 := List.length_replicate
  refine enterL (args := [.agg (prev.map u8).toArray, .int .i64 index, .int .i64 kind, .int .i64 time, str body]) Tryd.func20 rfl rfl (l := []) (Sep.refl _) ?_
  intro a0 H0
  refine wp_seq ?_
  refine reg ?_
  refine st_box rfl rfl (agg_cells _) rfl rfl rfl H0 ?_
  clear H0; intro b1 a1 wx1 H1
  refine st_alloc rfl z_zeroN35 rfl rfl rfl H1 ?_
  clear H1; intro b2 a2 wx2 H2
  refine plain (y_assign rfl rfl) rfl rfl rfl H2 ?_
  clear H2; intro a3 H3
  refine fin ?_
  refine then_n ?_
  refine wp_seq ?_
  refine wp_seq ?_
  refine reg ?_
  refine plain (y_move rfl rfl) rfl rfl rfl H3 ?_
  clear H3; intro a4 H4
  refine st_callg rfl z_call45 rfl rfl rfl rfl H4 (rwithin _ _ _) ?_
  clear H4; intro a5 wx5 H5
  refine plain ((by first | exact y_not_d rfl rfl | exact y_not rfl rfl)) rfl rfl rfl H5 ?_
  clear H5; intro a6 H6
  refine plain (y_move rfl rfl) rfl rfl rfl H6 ?_
  clear H6; intro a7 H7
  refine Sx.part (d := 17) H7 rfl (fun hg8 => ?_) (fun hg8 => ?_)
  · first
    | fail
    | skip
      clear H7; intro H9
      try simp only [decide_eq_true_eq, decide_eq_false_iff_not, Bool.not_eq_true', Bool.not_eq_false', Bool.and_eq_true, Bool.not_eq_true, Bool.not_eq_false] at hg8
      refine skip rfl rfl rfl H9 ?_
      clear H9; intro a10 H10
      refine skip rfl rfl rfl H10 ?_
      clear H10; intro a11 H11
      refine skip rfl rfl rfl H11 ?_
      clear H11; intro a12 H12
      refine plain (y_pick_t rfl rfl rfl) rfl rfl rfl H12 ?_
      clear H12; intro a13 H13
      refine plain (y_move rfl rfl) rfl rfl rfl H13 ?_
      clear H13; intro a14 H14
      refine skip rfl rfl rfl H14 ?_
      clear H14; intro a15 H15
      refine skip rfl rfl rfl H15 ?_
      clear H15; intro a16 H16
      refine skip rfl rfl rfl H16 ?_
      clear H16; intro a17 H17
      refine skip rfl rfl rfl H17 ?_
      clear H17; intro a18 H18
      refine skip rfl rfl rfl H18 ?_
      clear H18; intro a19 H19
      refine skip rfl rfl rfl H19 ?_
      clear H19; intro a20 H20
      refine plain (y_pick_t rfl rfl rfl) rfl rfl rfl H20 ?_
      clear H20; intro a21 H21
      refine plain (y_move rfl rfl) rfl rfl rfl H21 ?_
      clear H21; intro a22 H22
      refine skip rfl rfl rfl H22 ?_
      clear H22; intro a23 H23
      refine skip rfl rfl rfl H23 ?_
      clear H23; intro a24 H24
      refine skip rfl rfl rfl H24 ?_
      clear H24; intro a25 H25
      refine plain (y_pick_t rfl rfl rfl) rfl rfl rfl H25 ?_
      clear H25; intro a26 H26
      refine fin ?_
      refine then_n ?_
      refine cnd_t H26 rfl ?_
      refine wp_seq ?_
      refine reg ?_
      refine plain (y_build rfl z_zeroN35 z_places35 rfl lay_n) rfl rfl rfl H26 ?_
      clear H26; intro a28 H28
      refine st_storeN rfl z_size35 rfl rfl (agg_cells _) (by repeat (first | exact Uh | apply Ut)) (q_one_c4b32b32 rfl rfl rfl rfl) (q_len_c4b32b32 (by first | assumption | exact Sha.sum_length _) (by first | assumption | exact Sha.sum_length _)) (q_len_c4b32b32 (by first | assumption | exact Sha.sum_length _) (by first | assumption | exact Sha.sum_length _)) (q_spl_c4b32b32_0_c4b32b32 (by first | assumption | exact Sha.sum_length _) (by first | assumption | exact Sha.sum_length _) (by first | assumption | exact Sha.sum_length _) (by first | assumption | exact Sha.sum_length _)) (by decide) rfl rfl H28 ?_
      clear H28; intro wx29 H29
      refine plain (y_assign rfl rfl) rfl rfl rfl H29 ?_
      clear H29; intro a30 H30
      refine fin ?_
      refine then_n ?_
      refine wp_ret ?_
      refine then_r ?_
      -- return 1
      refine retct rfl H30 rfl z_agg35 z_size35 (by repeat (first | exact Mh | apply Mt)) (q_len_c4b32b32 (by first | assumption | exact Sha.sum_length _) (by first | assumption | exact Sha.sum_length _)) rfl ?_
      refine ⟨_, [], rfl, ⟨?_, rfl⟩, H30.sep.sub (List.nil_sublist _)⟩
      have hk := Note.Receipt.ok_is (⟨index, kind, time, body, prev, Note.Z⟩ : Note.Receipt)
      first | (rw [Note.link, if_neg (by rw [hk]; simp only [decide_eq_true_eq]; omega)]; rfl) | (rw [Note.link, if_pos (by rw [hk]; simp only [decide_eq_true_eq]; omega)]; rfl)
  · first
    | fail
    | skip
      clear H7; intro H31
      try simp only [decide_eq_true_eq, decide_eq_false_iff_not, Bool.not_eq_true', Bool.not_eq_false', Bool.and_eq_true, Bool.not_eq_true, Bool.not_eq_false] at hg8
      refine plain (y_move rfl rfl) rfl rfl rfl H31 ?_
      clear H31; intro a32 H32
      refine st_callg rfl z_call45 rfl rfl rfl rfl H32 (rwithin _ _ _) ?_
      clear H32; intro a33 wx33 H33
      refine plain ((by first | exact y_not_d rfl rfl | exact y_not rfl rfl)) rfl rfl rfl H33 ?_
      clear H33; intro a34 H34
      refine plain (y_pick_f rfl rfl rfl) rfl rfl rfl H34 ?_
      clear H34; intro a35 H35
      refine plain (y_move rfl rfl) rfl rfl rfl H35 ?_
      clear H35; intro a36 H36
      refine Sx.part (d := 22) H36 rfl (fun hg37 => ?_) (fun hg37 => ?_)
      · first
        | fail
        | skip
          clear H36; intro H38
          try simp only [decide_eq_true_eq, decide_eq_false_iff_not, Bool.not_eq_true', Bool.not_eq_false', Bool.and_eq_true, Bool.not_eq_true, Bool.not_eq_false] at hg37
          refine skip rfl rfl rfl H38 ?_
          clear H38; intro a39 H39
          refine skip rfl rfl rfl H39 ?_
          clear H39; intro a40 H40
          refine skip rfl rfl rfl H40 ?_
          clear H40; intro a41 H41
          refine skip rfl rfl rfl H41 ?_
          clear H41; intro a42 H42
          refine skip rfl rfl rfl H42 ?_
          clear H42; intro a43 H43
          refine skip rfl rfl rfl H43 ?_
          clear H43; intro a44 H44
          refine plain (y_pick_t rfl rfl rfl) rfl rfl rfl H44 ?_
          clear H44; intro a45 H45
          refine plain (y_move rfl rfl) rfl rfl rfl H45 ?_
          clear H45; intro a46 H46
          refine skip rfl rfl rfl H46 ?_
          clear H46; intro a47 H47
          refine skip rfl rfl rfl H47 ?_
          clear H47; intro a48 H48
          refine skip rfl rfl rfl H48 ?_
          clear H48; intro a49 H49
          refine plain (y_pick_t rfl rfl rfl) rfl rfl rfl H49 ?_
          clear H49; intro a50 H50
          refine fin ?_
          refine then_n ?_
          refine cnd_t H50 rfl ?_
          refine wp_seq ?_
          refine reg ?_
          refine plain (y_build rfl z_zeroN35 z_places35 rfl lay_n) rfl rfl rfl H50 ?_
          clear H50; intro a52 H52
          refine st_storeN rfl z_size35 rfl rfl (agg_cells _) (by repeat (first | exact Uh | apply Ut)) (q_one_c4b32b32 rfl rfl rfl rfl) (q_len_c4b32b32 (by first | assumption | exact Sha.sum_length _) (by first | assumption | exact Sha.sum_length _)) (q_len_c4b32b32 (by first | assumption | exact Sha.sum_length _) (by first | assumption | exact Sha.sum_length _)) (q_spl_c4b32b32_0_c4b32b32 (by first | assumption | exact Sha.sum_length _) (by first | assumption | exact Sha.sum_length _) (by first | assumption | exact Sha.sum_length _) (by first | assumption | exact Sha.sum_length _)) (by decide) rfl rfl H52 ?_
          clear H52; intro wx53 H53
          refine plain (y_assign rfl rfl) rfl rfl rfl H53 ?_
          clear H53; intro a54 H54
          refine fin ?_
          refine then_n ?_
          refine wp_ret ?_
          refine then_r ?_
          -- return 2
          refine retct rfl H54 rfl z_agg35 z_size35 (by repeat (first | exact Mh | apply Mt)) (q_len_c4b32b32 (by first | assumption | exact Sha.sum_length _) (by first | assumption | exact Sha.sum_length _)) rfl ?_
          refine ⟨_, [], rfl, ⟨?_, rfl⟩, H54.sep.sub (List.nil_sublist _)⟩
          have hk := Note.Receipt.ok_is (⟨index, kind, time, body, prev, Note.Z⟩ : Note.Receipt)
          first | (rw [Note.link, if_neg (by rw [hk]; simp only [decide_eq_true_eq]; omega)]; rfl) | (rw [Note.link, if_pos (by rw [hk]; simp only [decide_eq_true_eq]; omega)]; rfl)
      · first
        | fail
        | skip
          clear H36; intro H55
          try simp only [decide_eq_true_eq, decide_eq_false_iff_not, Bool.not_eq_true', Bool.not_eq_false', Bool.and_eq_true, Bool.not_eq_true, Bool.not_eq_false] at hg37
          refine plain (y_move rfl rfl) rfl rfl rfl H55 ?_
          clear H55; intro a56 H56
          refine plain (y_neq rfl rfl rfl) rfl rfl rfl H56 ?_
          clear H56; intro a57 H57
          refine plain (y_move rfl rfl) rfl rfl rfl H57 ?_
          clear H57; intro a58 H58
          refine Sx.part (d := 25) H58 rfl (fun hg59 => ?_) (fun hg59 => ?_)
          · first
            | fail
            | skip
              clear H58; intro H60
              try simp only [decide_eq_true_eq, decide_eq_false_iff_not, Bool.not_eq_true', Bool.not_eq_false', Bool.and_eq_true, Bool.not_eq_true, Bool.not_eq_false] at hg59
              refine plain (y_move rfl rfl) rfl rfl rfl H60 ?_
              clear H60; intro a61 H61
              refine plain (y_neq rfl rfl rfl) rfl rfl rfl H61 ?_
              clear H61; intro a62 H62
              refine plain (y_pick_t rfl rfl rfl) rfl rfl rfl H62 ?_
              clear H62; intro a63 H63
              refine plain (y_pick_f rfl rfl rfl) rfl rfl rfl H63 ?_
              clear H63; intro a64 H64
              refine plain (y_move rfl rfl) rfl rfl rfl H64 ?_
              clear H64; intro a65 H65
              refine Sx.part (d := 30) H65 rfl (fun hg66 => ?_) (fun hg66 => ?_)
              · first
                | fail
                | skip
                  clear H65; intro H67
                  try simp only [decide_eq_true_eq, decide_eq_false_iff_not, Bool.not_eq_true', Bool.not_eq_false', Bool.and_eq_true, Bool.not_eq_true, Bool.not_eq_false] at hg66
                  refine skip rfl rfl rfl H67 ?_
                  clear H67; intro a68 H68
                  refine skip rfl rfl rfl H68 ?_
                  clear H68; intro a69 H69
                  refine skip rfl rfl rfl H69 ?_
                  clear H69; intro a70 H70
                  refine plain (y_pick_t rfl rfl rfl) rfl rfl rfl H70 ?_
                  clear H70; intro a71 H71
                  refine fin ?_
                  refine then_n ?_
                  refine cnd_t H71 rfl ?_
                  refine wp_seq ?_
                  refine reg ?_
                  refine plain (y_build rfl z_zeroN35 z_places35 rfl lay_n) rfl rfl rfl H71 ?_
                  clear H71; intro a73 H73
                  refine st_storeN rfl z_size35 rfl rfl (agg_cells _) (by repeat (first | exact Uh | apply Ut)) (q_one_c4b32b32 rfl rfl rfl rfl) (q_len_c4b32b32 (by first | assumption | exact Sha.sum_length _) (by first | assumption | exact Sha.sum_length _)) (q_len_c4b32b32 (by first | assumption | exact Sha.sum_length _) (by first | assumption | exact Sha.sum_length _)) (q_spl_c4b32b32_0_c4b32b32 (by first | assumption | exact Sha.sum_length _) (by first | assumption | exact Sha.sum_length _) (by first | assumption | exact Sha.sum_length _) (by first | assumption | exact Sha.sum_length _)) (by decide) rfl rfl H73 ?_
                  clear H73; intro wx74 H74
                  refine plain (y_assign rfl rfl) rfl rfl rfl H74 ?_
                  clear H74; intro a75 H75
                  refine fin ?_
                  refine then_n ?_
                  refine wp_ret ?_
                  refine then_r ?_
                  -- return 3
                  refine retct rfl H75 rfl z_agg35 z_size35 (by repeat (first | exact Mh | apply Mt)) (q_len_c4b32b32 (by first | assumption | exact Sha.sum_length _) (by first | assumption | exact Sha.sum_length _)) rfl ?_
                  refine ⟨_, [], rfl, ⟨?_, rfl⟩, H75.sep.sub (List.nil_sublist _)⟩
                  have hk := Note.Receipt.ok_is (⟨index, kind, time, body, prev, Note.Z⟩ : Note.Receipt)
                  first | (rw [Note.link, if_neg (by rw [hk]; simp only [decide_eq_true_eq]; omega)]; rfl) | (rw [Note.link, if_pos (by rw [hk]; simp only [decide_eq_true_eq]; omega)]; rfl)
              · first
                | fail
                | skip
                  clear H65; intro H76
                  try simp only [decide_eq_true_eq, decide_eq_false_iff_not, Bool.not_eq_true', Bool.not_eq_false', Bool.and_eq_true, Bool.not_eq_true, Bool.not_eq_false] at hg66
                  refine plain (y_move rfl rfl) rfl rfl rfl H76 ?_
                  clear H76; intro a77 H77
                  refine plain (y_slen rfl Tryd.underlying9 rfl) rfl rfl rfl H77 ?_
                  clear H77; intro a78 H78
                  refine plain (y_gtr rfl rfl rfl) rfl rfl rfl H78 ?_
                  clear H78; intro a79 H79
                  refine plain (y_pick_f rfl rfl rfl) rfl rfl rfl H79 ?_
                  clear H79; intro a80 H80
                  refine fin ?_
                  refine then_n ?_
                  refine cnd H80 rfl (fun hc81 => ?_) (fun hc81 => ?_) -- cond 4
                  · skip
                    try simp only [decide_eq_true_eq, decide_eq_false_iff_not, Bool.not_eq_true', Bool.not_eq_false', Bool.and_eq_true, Bool.not_eq_true, Bool.not_eq_false] at hc81
                    refine wp_seq ?_
                    refine reg ?_
                    refine plain (y_build rfl z_zeroN35 z_places35 rfl lay_n) rfl rfl rfl H80 ?_
                    clear H80; intro a82 H82
                    refine st_storeN rfl z_size35 rfl rfl (agg_cells _) (by repeat (first | exact Uh | apply Ut)) (q_one_c4b32b32 rfl rfl rfl rfl) (q_len_c4b32b32 (by first | assumption | exact Sha.sum_length _) (by first | assumption | exact Sha.sum_length _)) (q_len_c4b32b32 (by first | assumption | exact Sha.sum_length _) (by first | assumption | exact Sha.sum_length _)) (q_spl_c4b32b32_0_c4b32b32 (by first | assumption | exact Sha.sum_length _) (by first | assumption | exact Sha.sum_length _) (by first | assumption | exact Sha.sum_length _) (by first | assumption | exact Sha.sum_length _)) (by decide) rfl rfl H82 ?_
                    clear H82; intro wx83 H83
                    refine plain (y_assign rfl rfl) rfl rfl rfl H83 ?_
                    clear H83; intro a84 H84
                    refine fin ?_
                    refine then_n ?_
                    refine wp_ret ?_
                    refine then_r ?_
                    -- return 4
                    refine retct rfl H84 rfl z_agg35 z_size35 (by repeat (first | exact Mh | apply Mt)) (q_len_c4b32b32 (by first | assumption | exact Sha.sum_length _) (by first | assumption | exact Sha.sum_length _)) rfl ?_
                    refine ⟨_, [], rfl, ⟨?_, rfl⟩, H84.sep.sub (List.nil_sublist _)⟩
                    have hk := Note.Receipt.ok_is (⟨index, kind, time, body, prev, Note.Z⟩ : Note.Receipt)
                    first | (rw [Note.link, if_neg (by rw [hk]; simp only [decide_eq_true_eq]; omega)]; rfl) | (rw [Note.link, if_pos (by rw [hk]; simp only [decide_eq_true_eq]; omega)]; rfl)
                  · skip
                    try simp only [decide_eq_true_eq, decide_eq_false_iff_not, Bool.not_eq_true', Bool.not_eq_false', Bool.and_eq_true, Bool.not_eq_true, Bool.not_eq_false] at hc81
                    refine wp_skip ?_
                    refine then_n ?_
                    refine wp_seq ?_
                    refine reg ?_
                    refine plain (y_move rfl rfl) rfl rfl rfl H80 ?_
                    clear H80; intro a85 H85
                    refine st_callg rfl z_call39 rfl rfl rfl rfl H85 (rtext _ (by first | exact hi.2 | exact hkd.2 | exact hti.2) _) ?_
                    clear H85; intro a86 wx86 H86
                    refine plain (y_move rfl rfl) rfl rfl rfl H86 ?_
                    clear H86; intro a87 H87
                    refine st_callg rfl z_call39 rfl rfl rfl rfl H87 (rtext _ (by first | exact hi.2 | exact hkd.2 | exact hti.2) _) ?_
                    clear H87; intro a88 wx88 H88
                    refine plain (y_move rfl rfl) rfl rfl rfl H88 ?_
                    clear H88; intro a89 H89
                    refine st_callg rfl z_call39 rfl rfl rfl rfl H89 (rtext _ (by first | exact hi.2 | exact hkd.2 | exact hti.2) _) ?_
                    clear H89; intro a90 wx90 H90
                    refine plain (y_move rfl rfl) rfl rfl rfl H90 ?_
                    clear H90; intro a91 H91
                    refine st_buildSlice1 (xs := [.tmp 38, .tmp 40, .tmp 42, .tmp 43]) rfl Tryd.underlying49 z_size9 z_zero9 rfl rfl rfl rfl rfl rfl rfl rfl rfl H91 ?_
                    clear H91; intro b92 a92 wx92 H92
                    refine st_callg rfl z_call38 rfl rfl rfl rfl H92 (rlist [Note.num index, Note.num kind, Note.num time, body] _ _ _ rfl (Rd.ofSep (rd_blkA (by repeat (first | exact Mh | apply Mt))) H92.sep) (by simp)) ?_
                    clear H92; intro a93 wx93 H93
                    refine plain (y_move rfl rfl) rfl rfl rfl H93 ?_
                    clear H93; intro a94 H94
                    refine plain (y_extract rfl rfl rfl) rfl rfl rfl H94 ?_
                    clear H94; intro a95 H95
                    refine plain (y_extract rfl rfl rfl) rfl rfl rfl H95 ?_
                    clear H95; intro a96 H96
                    refine plain (y_assign rfl rfl) rfl rfl rfl H96 ?_
                    clear H96; intro a97 H97
                    refine plain (y_assign rfl rfl) rfl rfl rfl H97 ?_
                    clear H97; intro a98 H98
                    refine fin ?_
                    refine then_n ?_
                    refine wp_seq ?_
                    refine hreg [It.blk b1 23 (prev.map u8)] (fun _ h => (h.sub (by first | exact S0 | exact S1 | repeat (first | exact S1 | exact S0 | apply S2 | apply S3)))) (by kernel_rfl) H98 ?_
                    clear H98; intro wx99 H99
                    refine htake 0 rfl (by kernel_rfl) (y_move rfl rfl) rfl rfl rfl (fun _ h => (h.sub (by first | exact S0 | exact S1 | repeat (first | exact S1 | exact S0 | apply S2 | apply S3)))) H99 ?_
                    clear H99; intro a100 H100
                    refine htake 1 rfl (by kernel_rfl) (y_move rfl rfl) rfl rfl rfl (fun _ h => (h.sub (by first | exact S0 | exact S1 | repeat (first | exact S1 | exact S0 | apply S2 | apply S3)))) H100 ?_
                    clear H100; intro a101 H101
                    refine htake 2 rfl (by kernel_rfl) (y_move rfl rfl) rfl rfl rfl (fun _ h => (h.sub (by first | exact S0 | exact S1 | repeat (first | exact S1 | exact S0 | apply S2 | apply S3)))) H101 ?_
                    clear H101; intro a102 H102
                    refine htake 3 rfl (by kernel_rfl) (y_move rfl rfl) rfl rfl rfl (fun _ h => (h.sub (by first | exact S0 | exact S1 | repeat (first | exact S1 | exact S0 | apply S2 | apply S3)))) H102 ?_
                    clear H102; intro a103 H103
                    refine htake 4 rfl (by kernel_rfl) (y_loadAB rfl z_agg23 z_size23 rfl (by repeat (first | exact Mh | apply Mt)) (q_ld_b32_0_32 (by first | assumption | exact Sha.sum_length _)) (q_len_b32 (by first | assumption | exact Sha.sum_length _))) rfl rfl rfl (fun _ h => (h.sub (by first | exact S0 | exact S1 | repeat (first | exact S1 | exact S0 | apply S2 | apply S3)))) H103 ?_
                    clear H103; intro a104 H104
                    refine htake 5 rfl (by kernel_rfl) (y_loadAB rfl z_agg23 z_size23 rfl (by repeat (first | exact Mh | apply Mt)) (q_ld_b32_0_32 (by first | assumption | exact Sha.sum_length _)) (q_len_b32 (by first | assumption | exact Sha.sum_length _))) rfl rfl rfl (fun _ h => (h.sub (by first | exact S0 | exact S1 | repeat (first | exact S1 | exact S0 | apply S2 | apply S3)))) H104 ?_
                    clear H104; intro a105 H105
                    refine htake 6 rfl (by kernel_rfl) (y_move rfl rfl) rfl rfl rfl (fun _ h => (h.sub (by first | exact S0 | exact S1 | repeat (first | exact S1 | exact S0 | apply S2 | apply S3)))) H105 ?_
                    clear H105; intro a106 H106
                    refine hgo 7 rfl (by kernel_rfl) ?_
                    refine st_callg rfl z_call46 rfl rfl rfl rfl H106 (rchain prev hp _ (by have := Oct.list_len (l := [Note.num index, Note.num kind, Note.num time, body]); omega)) ?_
                    clear H106; intro a107 wx107 H107
                    refine hfin (H107.sep.sub (by first | exact S0 | exact S1 | repeat (first | exact S1 | exact S0 | apply S2 | apply S3))) ?_
                    refine htake 8 rfl (by kernel_rfl) (y_build rfl z_zeroN35 z_places35 rfl (lay_1 (off := 0) (n := 68) rfl (q_len_c4b32b32 (by first | assumption | exact Sha.sum_length _) (by first | assumption | exact Sha.sum_length _)) (by decide) q_spl_c4b32b32_0_c1 (lay_1 (off := 1) (n := 68) rfl (q_len_c4b32b32 (by first | assumption | exact Sha.sum_length _) (by first | assumption | exact Sha.sum_length _)) (by decide) q_spl_c4b32b32_1_c1 (lay_1 (off := 2) (n := 68) rfl (q_len_c4b32b32 (by first | assumption | exact Sha.sum_length _) (by first | assumption | exact Sha.sum_length _)) (by decide) q_spl_c4b32b32_2_c1 (lay_1 (off := 3) (n := 68) rfl (q_len_c4b32b32 (by first | assumption | exact Sha.sum_length _) (by first | assumption | exact Sha.sum_length _)) (by decide) q_spl_c4b32b32_3_c1 (lay_f (off := 4) (z := 32) (n := 68) rfl (agg_cells _) (q_len_b32 (by first | assumption | exact Sha.sum_length _)) (q_len_c4b32b32 (by first | assumption | exact Sha.sum_length _) (by first | assumption | exact Sha.sum_length _)) (by decide) (q_spl_c4b32b32_4_b32 (by first | assumption | exact Sha.sum_length _) (by first | assumption | exact Sha.sum_length _)) (lay_f (off := 36) (z := 32) (n := 68) rfl (agg_cells _) (q_len_b32 (by first | assumption | exact Sha.sum_length _)) (q_len_c4b32b32 (by first | assumption | exact Sha.sum_length _) (by first | assumption | exact Sha.sum_length _)) (by decide) (q_spl_c4b32b32_36_b32 (by first | assumption | exact Sha.sum_length _) (by first | assumption | exact Sha.sum_length _) (by first | assumption | exact Sha.sum_length _)) lay_n)) (by rfl)) (by rfl)) (by rfl)) (by rfl))) rfl rfl rfl (fun _ h => (h.sub (by first | exact S0 | exact S1 | repeat (first | exact S1 | exact S0 | apply S2 | apply S3)))) H107 ?_
                    clear H107; intro a108 H108
                    refine hgo 9 rfl (by kernel_rfl) ?_
                    refine st_storeN rfl z_size35 rfl rfl (agg_cells _) (by repeat (first | exact Uh | apply Ut)) (q_one_c4b32b32 rfl rfl rfl rfl) (q_len_c4b32b32 (by first | assumption | exact Sha.sum_length _) (by first | assumption | exact Sha.sum_length _)) (q_len_c4b32b32 (by first | assumption | exact Sha.sum_length _) (by first | assumption | exact Sha.sum_length _)) (q_spl_c4b32b32_0_c4b32b32 (by first | assumption | exact Sha.sum_length _) (by first | assumption | exact Sha.sum_length _) (by first | assumption | exact Sha.sum_length _) (by first | assumption | exact Sha.sum_length _)) (by decide) rfl rfl H108 ?_
                    clear H108; intro wx109 H109
                    refine hfin (H109.sep.sub (by first | exact S0 | exact S1 | repeat (first | exact S1 | exact S0 | apply S2 | apply S3))) ?_
                    refine htake 10 rfl (by kernel_rfl) (y_assign rfl rfl) rfl rfl rfl (fun _ h => (h.sub (by first | exact S0 | exact S1 | repeat (first | exact S1 | exact S0 | apply S2 | apply S3)))) H109 ?_
                    clear H109; intro a110 H110
                    refine hdone (by kernel_rfl) ?_
                    refine then_n ?_
                    refine wp_ret ?_
                    -- return 5
                    refine retct rfl H110 rfl z_agg35 z_size35 (by repeat (first | exact Mh | apply Mt)) (q_len_c4b32b32 (by first | assumption | exact Sha.sum_length _) (by first | assumption | exact Sha.sum_length _)) rfl ?_
                    refine ⟨_, [], rfl, ⟨?_, rfl⟩, H110.sep.sub (List.nil_sublist _)⟩
                    have hk := Note.Receipt.ok_is (⟨index, kind, time, body, prev, Note.Z⟩ : Note.Receipt)
                    first | (rw [Note.link, if_neg (by rw [hk]; simp only [decide_eq_true_eq]; omega)]; rfl) | (rw [Note.link, if_pos (by rw [hk]; simp only [decide_eq_true_eq]; omega)]; rfl)
          · first
            | fail
            | skip
              clear H58; intro H111
              try simp only [decide_eq_true_eq, decide_eq_false_iff_not, Bool.not_eq_true', Bool.not_eq_false', Bool.and_eq_true, Bool.not_eq_true, Bool.not_eq_false] at hg59
              refine skip rfl rfl rfl H111 ?_
              clear H111; intro a112 H112
              refine skip rfl rfl rfl H112 ?_
              clear H112; intro a113 H113
              refine plain (y_pick_f rfl rfl rfl) rfl rfl rfl H113 ?_
              clear H113; intro a114 H114
              refine plain (y_pick_f rfl rfl rfl) rfl rfl rfl H114 ?_
              clear H114; intro a115 H115
              refine plain (y_move rfl rfl) rfl rfl rfl H115 ?_
              clear H115; intro a116 H116
              refine plain (y_move rfl rfl) rfl rfl rfl H116 ?_
              clear H116; intro a117 H117
              refine plain (y_slen rfl Tryd.underlying9 rfl) rfl rfl rfl H117 ?_
              clear H117; intro a118 H118
              refine plain (y_gtr rfl rfl rfl) rfl rfl rfl H118 ?_
              clear H118; intro a119 H119
              refine plain (y_pick_f rfl rfl rfl) rfl rfl rfl H119 ?_
              clear H119; intro a120 H120
              refine fin ?_
              refine then_n ?_
              refine cnd H120 rfl (fun hc121 => ?_) (fun hc121 => ?_) -- cond 5
              · skip
                try simp only [decide_eq_true_eq, decide_eq_false_iff_not, Bool.not_eq_true', Bool.not_eq_false', Bool.and_eq_true, Bool.not_eq_true, Bool.not_eq_false] at hc121
                refine wp_seq ?_
                refine reg ?_
                refine plain (y_build rfl z_zeroN35 z_places35 rfl lay_n) rfl rfl rfl H120 ?_
                clear H120; intro a122 H122
                refine st_storeN rfl z_size35 rfl rfl (agg_cells _) (by repeat (first | exact Uh | apply Ut)) (q_one_c4b32b32 rfl rfl rfl rfl) (q_len_c4b32b32 (by first | assumption | exact Sha.sum_length _) (by first | assumption | exact Sha.sum_length _)) (q_len_c4b32b32 (by first | assumption | exact Sha.sum_length _) (by first | assumption | exact Sha.sum_length _)) (q_spl_c4b32b32_0_c4b32b32 (by first | assumption | exact Sha.sum_length _) (by first | assumption | exact Sha.sum_length _) (by first | assumption | exact Sha.sum_length _) (by first | assumption | exact Sha.sum_length _)) (by decide) rfl rfl H122 ?_
                clear H122; intro wx123 H123
                refine plain (y_assign rfl rfl) rfl rfl rfl H123 ?_
                clear H123; intro a124 H124
                refine fin ?_
                refine then_n ?_
                refine wp_ret ?_
                refine then_r ?_
                -- return 6
                refine retct rfl H124 rfl z_agg35 z_size35 (by repeat (first | exact Mh | apply Mt)) (q_len_c4b32b32 (by first | assumption | exact Sha.sum_length _) (by first | assumption | exact Sha.sum_length _)) rfl ?_
                refine ⟨_, [], rfl, ⟨?_, rfl⟩, H124.sep.sub (List.nil_sublist _)⟩
                have hk := Note.Receipt.ok_is (⟨index, kind, time, body, prev, Note.Z⟩ : Note.Receipt)
                first | (rw [Note.link, if_neg (by rw [hk]; simp only [decide_eq_true_eq]; omega)]; rfl) | (rw [Note.link, if_pos (by rw [hk]; simp only [decide_eq_true_eq]; omega)]; rfl)
              · skip
                try simp only [decide_eq_true_eq, decide_eq_false_iff_not, Bool.not_eq_true', Bool.not_eq_false', Bool.and_eq_true, Bool.not_eq_true, Bool.not_eq_false] at hc121
                refine wp_skip ?_
                refine then_n ?_
                refine wp_seq ?_
                refine reg ?_
                refine plain (y_move rfl rfl) rfl rfl rfl H120 ?_
                clear H120; intro a125 H125
                refine st_callg rfl z_call39 rfl rfl rfl rfl H125 (rtext _ (by first | exact hi.2 | exact hkd.2 | exact hti.2) _) ?_
                clear H125; intro a126 wx126 H126
                refine plain (y_move rfl rfl) rfl rfl rfl H126 ?_
                clear H126; intro a127 H127
                refine st_callg rfl z_call39 rfl rfl rfl rfl H127 (rtext _ (by first | exact hi.2 | exact hkd.2 | exact hti.2) _) ?_
                clear H127; intro a128 wx128 H128
                refine plain (y_move rfl rfl) rfl rfl rfl H128 ?_
                clear H128; intro a129 H129
                refine st_callg rfl z_call39 rfl rfl rfl rfl H129 (rtext _ (by first | exact hi.2 | exact hkd.2 | exact hti.2) _) ?_
                clear H129; intro a130 wx130 H130
                refine plain (y_move rfl rfl) rfl rfl rfl H130 ?_
                clear H130; intro a131 H131
                refine st_buildSlice1 (xs := [.tmp 38, .tmp 40, .tmp 42, .tmp 43]) rfl Tryd.underlying49 z_size9 z_zero9 rfl rfl rfl rfl rfl rfl rfl rfl rfl H131 ?_
                clear H131; intro b132 a132 wx132 H132
                refine st_callg rfl z_call38 rfl rfl rfl rfl H132 (rlist [Note.num index, Note.num kind, Note.num time, body] _ _ _ rfl (Rd.ofSep (rd_blkA (by repeat (first | exact Mh | apply Mt))) H132.sep) (by simp)) ?_
                clear H132; intro a133 wx133 H133
                refine plain (y_move rfl rfl) rfl rfl rfl H133 ?_
                clear H133; intro a134 H134
                refine plain (y_extract rfl rfl rfl) rfl rfl rfl H134 ?_
                clear H134; intro a135 H135
                refine plain (y_extract rfl rfl rfl) rfl rfl rfl H135 ?_
                clear H135; intro a136 H136
                refine plain (y_assign rfl rfl) rfl rfl rfl H136 ?_
                clear H136; intro a137 H137
                refine plain (y_assign rfl rfl) rfl rfl rfl H137 ?_
                clear H137; intro a138 H138
                refine fin ?_
                refine then_n ?_
                refine wp_seq ?_
                refine hreg [It.blk b1 23 (prev.map u8)] (fun _ h => (h.sub (by first | exact S0 | exact S1 | repeat (first | exact S1 | exact S0 | apply S2 | apply S3)))) (by kernel_rfl) H138 ?_
                clear H138; intro wx139 H139
                refine htake 0 rfl (by kernel_rfl) (y_move rfl rfl) rfl rfl rfl (fun _ h => (h.sub (by first | exact S0 | exact S1 | repeat (first | exact S1 | exact S0 | apply S2 | apply S3)))) H139 ?_
                clear H139; intro a140 H140
                refine htake 1 rfl (by kernel_rfl) (y_move rfl rfl) rfl rfl rfl (fun _ h => (h.sub (by first | exact S0 | exact S1 | repeat (first | exact S1 | exact S0 | apply S2 | apply S3)))) H140 ?_
                clear H140; intro a141 H141
                refine htake 2 rfl (by kernel_rfl) (y_move rfl rfl) rfl rfl rfl (fun _ h => (h.sub (by first | exact S0 | exact S1 | repeat (first | exact S1 | exact S0 | apply S2 | apply S3)))) H141 ?_
                clear H141; intro a142 H142
                refine htake 3 rfl (by kernel_rfl) (y_move rfl rfl) rfl rfl rfl (fun _ h => (h.sub (by first | exact S0 | exact S1 | repeat (first | exact S1 | exact S0 | apply S2 | apply S3)))) H142 ?_
                clear H142; intro a143 H143
                refine htake 4 rfl (by kernel_rfl) (y_loadAB rfl z_agg23 z_size23 rfl (by repeat (first | exact Mh | apply Mt)) (q_ld_b32_0_32 (by first | assumption | exact Sha.sum_length _)) (q_len_b32 (by first | assumption | exact Sha.sum_length _))) rfl rfl rfl (fun _ h => (h.sub (by first | exact S0 | exact S1 | repeat (first | exact S1 | exact S0 | apply S2 | apply S3)))) H143 ?_
                clear H143; intro a144 H144
                refine htake 5 rfl (by kernel_rfl) (y_loadAB rfl z_agg23 z_size23 rfl (by repeat (first | exact Mh | apply Mt)) (q_ld_b32_0_32 (by first | assumption | exact Sha.sum_length _)) (q_len_b32 (by first | assumption | exact Sha.sum_length _))) rfl rfl rfl (fun _ h => (h.sub (by first | exact S0 | exact S1 | repeat (first | exact S1 | exact S0 | apply S2 | apply S3)))) H144 ?_
                clear H144; intro a145 H145
                refine htake 6 rfl (by kernel_rfl) (y_move rfl rfl) rfl rfl rfl (fun _ h => (h.sub (by first | exact S0 | exact S1 | repeat (first | exact S1 | exact S0 | apply S2 | apply S3)))) H145 ?_
                clear H145; intro a146 H146
                refine hgo 7 rfl (by kernel_rfl) ?_
                refine st_callg rfl z_call46 rfl rfl rfl rfl H146 (rchain prev hp _ (by have := Oct.list_len (l := [Note.num index, Note.num kind, Note.num time, body]); omega)) ?_
                clear H146; intro a147 wx147 H147
                refine hfin (H147.sep.sub (by first | exact S0 | exact S1 | repeat (first | exact S1 | exact S0 | apply S2 | apply S3))) ?_
                refine htake 8 rfl (by kernel_rfl) (y_build rfl z_zeroN35 z_places35 rfl (lay_1 (off := 0) (n := 68) rfl (q_len_c4b32b32 (by first | assumption | exact Sha.sum_length _) (by first | assumption | exact Sha.sum_length _)) (by decide) q_spl_c4b32b32_0_c1 (lay_1 (off := 1) (n := 68) rfl (q_len_c4b32b32 (by first | assumption | exact Sha.sum_length _) (by first | assumption | exact Sha.sum_length _)) (by decide) q_spl_c4b32b32_1_c1 (lay_1 (off := 2) (n := 68) rfl (q_len_c4b32b32 (by first | assumption | exact Sha.sum_length _) (by first | assumption | exact Sha.sum_length _)) (by decide) q_spl_c4b32b32_2_c1 (lay_1 (off := 3) (n := 68) rfl (q_len_c4b32b32 (by first | assumption | exact Sha.sum_length _) (by first | assumption | exact Sha.sum_length _)) (by decide) q_spl_c4b32b32_3_c1 (lay_f (off := 4) (z := 32) (n := 68) rfl (agg_cells _) (q_len_b32 (by first | assumption | exact Sha.sum_length _)) (q_len_c4b32b32 (by first | assumption | exact Sha.sum_length _) (by first | assumption | exact Sha.sum_length _)) (by decide) (q_spl_c4b32b32_4_b32 (by first | assumption | exact Sha.sum_length _) (by first | assumption | exact Sha.sum_length _)) (lay_f (off := 36) (z := 32) (n := 68) rfl (agg_cells _) (q_len_b32 (by first | assumption | exact Sha.sum_length _)) (q_len_c4b32b32 (by first | assumption | exact Sha.sum_length _) (by first | assumption | exact Sha.sum_length _)) (by decide) (q_spl_c4b32b32_36_b32 (by first | assumption | exact Sha.sum_length _) (by first | assumption | exact Sha.sum_length _) (by first | assumption | exact Sha.sum_length _)) lay_n)) (by rfl)) (by rfl)) (by rfl)) (by rfl))) rfl rfl rfl (fun _ h => (h.sub (by first | exact S0 | exact S1 | repeat (first | exact S1 | exact S0 | apply S2 | apply S3)))) H147 ?_
                clear H147; intro a148 H148
                refine hgo 9 rfl (by kernel_rfl) ?_
                refine st_storeN rfl z_size35 rfl rfl (agg_cells _) (by repeat (first | exact Uh | apply Ut)) (q_one_c4b32b32 rfl rfl rfl rfl) (q_len_c4b32b32 (by first | assumption | exact Sha.sum_length _) (by first | assumption | exact Sha.sum_length _)) (q_len_c4b32b32 (by first | assumption | exact Sha.sum_length _) (by first | assumption | exact Sha.sum_length _)) (q_spl_c4b32b32_0_c4b32b32 (by first | assumption | exact Sha.sum_length _) (by first | assumption | exact Sha.sum_length _) (by first | assumption | exact Sha.sum_length _) (by first | assumption | exact Sha.sum_length _)) (by decide) rfl rfl H148 ?_
                clear H148; intro wx149 H149
                refine hfin (H149.sep.sub (by first | exact S0 | exact S1 | repeat (first | exact S1 | exact S0 | apply S2 | apply S3))) ?_
                refine htake 10 rfl (by kernel_rfl) (y_assign rfl rfl) rfl rfl rfl (fun _ h => (h.sub (by first | exact S0 | exact S1 | repeat (first | exact S1 | exact S0 | apply S2 | apply S3)))) H149 ?_
                clear H149; intro a150 H150
                refine hdone (by kernel_rfl) ?_
                refine then_n ?_
                refine wp_ret ?_
                -- return 7
                refine retct rfl H150 rfl z_agg35 z_size35 (by repeat (first | exact Mh | apply Mt)) (q_len_c4b32b32 (by first | assumption | exact Sha.sum_length _) (by first | assumption | exact Sha.sum_length _)) rfl ?_
                refine ⟨_, [], rfl, ⟨?_, rfl⟩, H150.sep.sub (List.nil_sublist _)⟩
                have hk := Note.Receipt.ok_is (⟨index, kind, time, body, prev, Note.Z⟩ : Note.Receipt)
                first | (rw [Note.link, if_neg (by rw [hk]; simp only [decide_eq_true_eq]; omega)]; rfl) | (rw [Note.link, if_pos (by rw [hk]; simp only [decide_eq_true_eq]; omega)]; rfl)
set_option maxRecDepth 100000 in
set_option maxHeartbeats 2000000 in
theorem rreadrec (s : List UInt8) (hs : s.length ≤ 140737488351232) {w : World}  : Calls Tryd.prog 28 #[str s] w (Gives (.tuple #[.agg (Note.Receipt.cells (Note.readReceipt s).1).toArray, .int .i64 (Note.readReceipt s).2]) [] w) := by
  have hwl := Note.whole_len (s := s)
  have hLb := Note.whole_le (s := s)
  have lz32 : (List.replicate 32 (0 : UInt8)).length = 32 := List.length_replicate
  refine enterL (args := [str s]) Tryd.func28 rfl rfl (l := []) (Sep.refl _) ?_
  intro a0 H0
  refine wp_seq ?_
  refine reg ?_
  refine st_alloc rfl z_zeroN35 rfl rfl rfl H0 ?_
  clear H0; intro b1 a1 wx1 H1
  refine plain (y_assign rfl rfl) rfl rfl rfl H1 ?_
  clear H1; intro a2 H2
  refine fin ?_
  refine then_n ?_
  refine wp_seq ?_
  refine reg ?_
  refine plain (y_move rfl rfl) rfl rfl rfl H2 ?_
  clear H2; intro a3 H3
  refine st_call rfl z_call52 rfl rfl rfl rfl H3 (rwhole s (by omega) _) ?_
  clear H3; intro v4 l4 a4 wx4 hf4 H4
  obtain ⟨vt4, rfl, rfl⟩ := hf4
  simp only [List.cons_append, List.nil_append] at H4
  obtain ⟨ArL, crL, hvrL, hRrL, hmrL⟩ := row_shape (v := vt4) H4.sep (by repeat (first | exact Mh | apply Mt))
  subst hvrL
  refine plain (y_move rfl rfl) rfl rfl rfl H4 ?_
  clear H4; intro a5 H5
  refine plain (y_extract rfl rfl rfl) rfl rfl rfl H5 ?_
  clear H5; intro a6 H6
  refine plain (y_extract rfl rfl rfl) rfl rfl rfl H6 ?_
  clear H6; intro a7 H7
  refine plain (y_assign rfl rfl) rfl rfl rfl H7 ?_
  clear H7; intro a8 H8
  refine plain (y_assign rfl rfl) rfl rfl rfl H8 ?_
  clear H8; intro a9 H9
  refine fin ?_
  refine then_n ?_
  refine wp_seq ?_
  refine reg ?_
  refine plain (y_move rfl rfl) rfl rfl rfl H9 ?_
  clear H9; intro a10 H10
  refine st_call rfl z_call53 rfl rfl rfl rfl H10 (rnumbers (Note.whole s).1 Note.whole_le 3 (by decide) _ _ _ rfl (by have := Note.whole_len (s := s); omega) (Rd.ofSep (rd_row (by repeat (first | exact Mh | apply Mt))) H10.sep)) ?_
  clear H10; intro v11 l11 a11 wx11 hf11 H11
  rcases hf11 with ⟨vn, ns, hfi, rfl, rfl, hnl, hnr⟩ | ⟨hfi, rfl, rfl⟩
  · skip
    obtain ⟨n0, n1, n2, rfl⟩ := Note.three hnl
    simp only [List.cons_append, List.nil_append] at H11
    obtain ⟨An, cn, hvn, hRn, hmn⟩ := row_shape (v := vn) H11.sep (List.Mem.head _)
    subst hvn
    refine plain (y_move rfl rfl) rfl rfl rfl H11 ?_
    clear H11; intro a12 H12
    refine plain (y_extract rfl rfl rfl) rfl rfl rfl H12 ?_
    clear H12; intro a13 H13
    refine plain (y_extract rfl rfl rfl) rfl rfl rfl H13 ?_
    clear H13; intro a14 H14
    refine plain (y_assign rfl rfl) rfl rfl rfl H14 ?_
    clear H14; intro a15 H15
    refine plain (y_assign rfl rfl) rfl rfl rfl H15 ?_
    clear H15; intro a16 H16
    refine fin ?_
    refine then_n ?_
    refine wp_seq ?_
    refine wp_seq ?_
    refine reg ?_
    refine plain (y_move rfl rfl) rfl rfl rfl H16 ?_
    clear H16; intro a17 H17
    refine plain (y_neq rfl rfl rfl) rfl rfl rfl H17 ?_
    clear H17; intro a18 H18
    refine plain (y_move rfl rfl) rfl rfl rfl H18 ?_
    clear H18; intro a19 H19
    refine Sx.part (d := 22) H19 rfl (fun hg20 => ?_) (fun hg20 => ?_)
    · first
      | fail
      | skip
        clear H19; intro H21
        try simp only [decide_eq_true_eq, decide_eq_false_iff_not, Bool.not_eq_true', Bool.not_eq_false', Bool.and_eq_true, Bool.not_eq_true, Bool.not_eq_false] at hg20
        refine skip rfl rfl rfl H21 ?_
        clear H21; intro a22 H22
        refine skip rfl rfl rfl H22 ?_
        clear H22; intro a23 H23
        refine plain (y_pick_t rfl rfl rfl) rfl rfl rfl H23 ?_
        clear H23; intro a24 H24
        refine plain (y_move rfl rfl) rfl rfl rfl H24 ?_
        clear H24; intro a25 H25
        refine skip rfl rfl rfl H25 ?_
        clear H25; intro a26 H26
        refine skip rfl rfl rfl H26 ?_
        clear H26; intro a27 H27
        refine skip rfl rfl rfl H27 ?_
        clear H27; intro a28 H28
        refine plain (y_pick_t rfl rfl rfl) rfl rfl rfl H28 ?_
        clear H28; intro a29 H29
        refine plain (y_move rfl rfl) rfl rfl rfl H29 ?_
        clear H29; intro a30 H30
        refine skip rfl rfl rfl H30 ?_
        clear H30; intro a31 H31
        refine skip rfl rfl rfl H31 ?_
        clear H31; intro a32 H32
        refine skip rfl rfl rfl H32 ?_
        clear H32; intro a33 H33
        refine skip rfl rfl rfl H33 ?_
        clear H33; intro a34 H34
        refine skip rfl rfl rfl H34 ?_
        clear H34; intro a35 H35
        refine plain (y_pick_t rfl rfl rfl) rfl rfl rfl H35 ?_
        clear H35; intro a36 H36
        refine plain (y_move rfl rfl) rfl rfl rfl H36 ?_
        clear H36; intro a37 H37
        refine skip rfl rfl rfl H37 ?_
        clear H37; intro a38 H38
        refine skip rfl rfl rfl H38 ?_
        clear H38; intro a39 H39
        refine skip rfl rfl rfl H39 ?_
        clear H39; intro a40 H40
        refine skip rfl rfl rfl H40 ?_
        clear H40; intro a41 H41
        refine skip rfl rfl rfl H41 ?_
        clear H41; intro a42 H42
        refine plain (y_pick_t rfl rfl rfl) rfl rfl rfl H42 ?_
        clear H42; intro a43 H43
        refine fin ?_
        refine then_n ?_
        refine cnd_t H43 rfl ?_
        refine wp_seq ?_
        refine reg ?_
        refine plain (y_build rfl z_zeroN35 z_places35 rfl lay_n) rfl rfl rfl H43 ?_
        clear H43; intro a45 H45
        refine st_storeN rfl z_size35 rfl rfl (agg_cells _) (by repeat (first | exact Uh | apply Ut)) (q_one_c4b32b32 rfl rfl rfl rfl) (q_len_c4b32b32 (by first | assumption | exact Note.linkF_prev _ hl1 | exact Note.linkF_hash _ _ _ _ _) (by first | assumption | exact Note.linkF_prev _ hl1 | exact Note.linkF_hash _ _ _ _ _)) (q_len_c4b32b32 (by first | assumption | exact Note.linkF_prev _ hl1 | exact Note.linkF_hash _ _ _ _ _) (by first | assumption | exact Note.linkF_prev _ hl1 | exact Note.linkF_hash _ _ _ _ _)) (q_spl_c4b32b32_0_c4b32b32 (by first | assumption | exact Note.linkF_prev _ hl1 | exact Note.linkF_hash _ _ _ _ _) (by first | assumption | exact Note.linkF_prev _ hl1 | exact Note.linkF_hash _ _ _ _ _) (by first | assumption | exact Note.linkF_prev _ hl1 | exact Note.linkF_hash _ _ _ _ _) (by first | assumption | exact Note.linkF_prev _ hl1 | exact Note.linkF_hash _ _ _ _ _)) (by decide) rfl rfl H45 ?_
        clear H45; intro wx46 H46
        refine plain (y_assign rfl rfl) rfl rfl rfl H46 ?_
        clear H46; intro a47 H47
        refine fin ?_
        refine then_n ?_
        refine wp_ret ?_
        refine then_r ?_
        -- return 1
        refine retct rfl H47 rfl z_agg35 z_size35 (by repeat (first | exact Mh | apply Mt)) (q_len_c4b32b32 (by first | assumption | exact Note.linkF_prev _ hl1 | exact Note.linkF_hash _ _ _ _ _) (by first | assumption | exact Note.linkF_prev _ hl1 | exact Note.linkF_hash _ _ _ _ _)) rfl ?_
        refine ⟨_, [], rfl, ⟨?_, rfl⟩, H47.sep.sub (List.nil_sublist _)⟩
        first | (rw [Note.readReceipt_none (by first | exact Note.fields_none2 hfi | exact Note.fields_none1 (by assumption))]; rfl) | (rw [Note.readReceipt_bad (Note.fields_some (by assumption) hfi) (by rintro ⟨h1, h2, h3, _⟩; simp only [List.length_drop] at h1; omega)]; rfl) | (rw [Note.readReceipt_link hfs (by simp only [List.length_drop]; omega) hl1 hl2 (.inl (by assumption))]; rfl) | (rw [Note.readReceipt_link hfs (by simp only [List.length_drop]; omega) hl1 hl2 (.inr (by assumption))]; rfl) | (obtain ⟨e1, e2⟩ := Note.readReceipt_fine hfs (by simp only [List.length_drop]; omega) hl1 hl2 (by omega) (by assumption); rw [e1, ← e2]; rfl)
    · first
      | fail
      | skip
        clear H19; intro H48
        try simp only [decide_eq_true_eq, decide_eq_false_iff_not, Bool.not_eq_true', Bool.not_eq_false', Bool.and_eq_true, Bool.not_eq_true, Bool.not_eq_false] at hg20
        refine plain (y_move rfl rfl) rfl rfl rfl H48 ?_
        clear H48; intro a49 H49
        refine plain (y_not rfl rfl) rfl rfl rfl H49 ?_
        clear H49; intro a50 H50
        refine plain (y_pick_f rfl rfl rfl) rfl rfl rfl H50 ?_
        clear H50; intro a51 H51
        refine plain (y_move rfl rfl) rfl rfl rfl H51 ?_
        clear H51; intro a52 H52
        refine plain (y_move rfl rfl) rfl rfl rfl H52 ?_
        clear H52; intro a53 H53
        refine plain (y_len rfl Tryd.underlying49 rfl) rfl rfl rfl H53 ?_
        clear H53; intro a54 H54
        refine plain (y_neq rfl rfl rfl) rfl rfl rfl H54 ?_
        clear H54; intro a55 H55
        refine plain (y_pick_f rfl rfl rfl) rfl rfl rfl H55 ?_
        clear H55; intro a56 H56
        refine plain (y_move rfl rfl) rfl rfl rfl H56 ?_
        clear H56; intro a57 H57
        refine Sx.part (d := 31) H57 rfl (fun hg58 => ?_) (fun hg58 => ?_)
        · first
          | fail
          | skip
            clear H57; intro H59
            try simp only [decide_eq_true_eq, decide_eq_false_iff_not, Bool.not_eq_true', Bool.not_eq_false', Bool.and_eq_true, Bool.not_eq_true, Bool.not_eq_false] at hg58
            refine skip rfl rfl rfl H59 ?_
            clear H59; intro a60 H60
            refine skip rfl rfl rfl H60 ?_
            clear H60; intro a61 H61
            refine skip rfl rfl rfl H61 ?_
            clear H61; intro a62 H62
            refine skip rfl rfl rfl H62 ?_
            clear H62; intro a63 H63
            refine skip rfl rfl rfl H63 ?_
            clear H63; intro a64 H64
            refine plain (y_pick_t rfl rfl rfl) rfl rfl rfl H64 ?_
            clear H64; intro a65 H65
            refine plain (y_move rfl rfl) rfl rfl rfl H65 ?_
            clear H65; intro a66 H66
            refine skip rfl rfl rfl H66 ?_
            clear H66; intro a67 H67
            refine skip rfl rfl rfl H67 ?_
            clear H67; intro a68 H68
            refine skip rfl rfl rfl H68 ?_
            clear H68; intro a69 H69
            refine skip rfl rfl rfl H69 ?_
            clear H69; intro a70 H70
            refine skip rfl rfl rfl H70 ?_
            clear H70; intro a71 H71
            refine plain (y_pick_t rfl rfl rfl) rfl rfl rfl H71 ?_
            clear H71; intro a72 H72
            refine fin ?_
            refine then_n ?_
            refine cnd_t H72 rfl ?_
            refine wp_seq ?_
            refine reg ?_
            refine plain (y_build rfl z_zeroN35 z_places35 rfl lay_n) rfl rfl rfl H72 ?_
            clear H72; intro a74 H74
            refine st_storeN rfl z_size35 rfl rfl (agg_cells _) (by repeat (first | exact Uh | apply Ut)) (q_one_c4b32b32 rfl rfl rfl rfl) (q_len_c4b32b32 (by first | assumption | exact Note.linkF_prev _ hl1 | exact Note.linkF_hash _ _ _ _ _) (by first | assumption | exact Note.linkF_prev _ hl1 | exact Note.linkF_hash _ _ _ _ _)) (q_len_c4b32b32 (by first | assumption | exact Note.linkF_prev _ hl1 | exact Note.linkF_hash _ _ _ _ _) (by first | assumption | exact Note.linkF_prev _ hl1 | exact Note.linkF_hash _ _ _ _ _)) (q_spl_c4b32b32_0_c4b32b32 (by first | assumption | exact Note.linkF_prev _ hl1 | exact Note.linkF_hash _ _ _ _ _) (by first | assumption | exact Note.linkF_prev _ hl1 | exact Note.linkF_hash _ _ _ _ _) (by first | assumption | exact Note.linkF_prev _ hl1 | exact Note.linkF_hash _ _ _ _ _) (by first | assumption | exact Note.linkF_prev _ hl1 | exact Note.linkF_hash _ _ _ _ _)) (by decide) rfl rfl H74 ?_
            clear H74; intro wx75 H75
            refine plain (y_assign rfl rfl) rfl rfl rfl H75 ?_
            clear H75; intro a76 H76
            refine fin ?_
            refine then_n ?_
            refine wp_ret ?_
            refine then_r ?_
            -- return 2
            refine retct rfl H76 rfl z_agg35 z_size35 (by repeat (first | exact Mh | apply Mt)) (q_len_c4b32b32 (by first | assumption | exact Note.linkF_prev _ hl1 | exact Note.linkF_hash _ _ _ _ _) (by first | assumption | exact Note.linkF_prev _ hl1 | exact Note.linkF_hash _ _ _ _ _)) rfl ?_
            refine ⟨_, [], rfl, ⟨?_, rfl⟩, H76.sep.sub (List.nil_sublist _)⟩
            first | (rw [Note.readReceipt_none (by first | exact Note.fields_none2 hfi | exact Note.fields_none1 (by assumption))]; rfl) | (rw [Note.readReceipt_bad (Note.fields_some (by assumption) hfi) (by rintro ⟨h1, h2, h3, _⟩; simp only [List.length_drop] at h1; omega)]; rfl) | (rw [Note.readReceipt_link hfs (by simp only [List.length_drop]; omega) hl1 hl2 (.inl (by assumption))]; rfl) | (rw [Note.readReceipt_link hfs (by simp only [List.length_drop]; omega) hl1 hl2 (.inr (by assumption))]; rfl) | (obtain ⟨e1, e2⟩ := Note.readReceipt_fine hfs (by simp only [List.length_drop]; omega) hl1 hl2 (by omega) (by assumption); rw [e1, ← e2]; rfl)
        · first
          | fail
          | skip
            clear H57; intro H77
            try simp only [decide_eq_true_eq, decide_eq_false_iff_not, Bool.not_eq_true', Bool.not_eq_false', Bool.and_eq_true, Bool.not_eq_true, Bool.not_eq_false] at hg58
            refine plain (y_move rfl rfl) rfl rfl rfl H77 ?_
            clear H77; intro a78 H78
            refine plain (y_ixR rfl Tryd.underlying49 z_size9 rfl rfl (by omega) (by omega) (rd_row (by repeat (first | exact Mh | apply Mt))) (by rw [List.length_map]; first | omega | (simp; done))) rfl rfl rfl H78 ?_
            clear H78; intro a79 H79
            refine plain (y_loadR rfl z_agg9 rfl (rd_row (by repeat (first | exact Mh | apply Mt))) (Note.rest_at 3 1 (by omega))) rfl rfl rfl H79 ?_
            clear H79; intro a80 H80
            refine plain (y_slen rfl Tryd.underlying9 rfl) rfl rfl rfl H80 ?_
            clear H80; intro a81 H81
            refine plain (y_neq rfl rfl rfl) rfl rfl rfl H81 ?_
            clear H81; intro a82 H82
            refine plain (y_pick_f rfl rfl rfl) rfl rfl rfl H82 ?_
            clear H82; intro a83 H83
            refine plain (y_move rfl rfl) rfl rfl rfl H83 ?_
            clear H83; intro a84 H84
            refine Sx.part (d := 38) H84 rfl (fun hg85 => ?_) (fun hg85 => ?_)
            · first
              | fail
              | skip
                clear H84; intro H86
                try simp only [decide_eq_true_eq, decide_eq_false_iff_not, Bool.not_eq_true', Bool.not_eq_false', Bool.and_eq_true, Bool.not_eq_true, Bool.not_eq_false] at hg85
                refine skip rfl rfl rfl H86 ?_
                clear H86; intro a87 H87
                refine skip rfl rfl rfl H87 ?_
                clear H87; intro a88 H88
                refine skip rfl rfl rfl H88 ?_
                clear H88; intro a89 H89
                refine skip rfl rfl rfl H89 ?_
                clear H89; intro a90 H90
                refine skip rfl rfl rfl H90 ?_
                clear H90; intro a91 H91
                refine plain (y_pick_t rfl rfl rfl) rfl rfl rfl H91 ?_
                clear H91; intro a92 H92
                refine fin ?_
                refine then_n ?_
                refine cnd_t H92 rfl ?_
                refine wp_seq ?_
                refine reg ?_
                refine plain (y_build rfl z_zeroN35 z_places35 rfl lay_n) rfl rfl rfl H92 ?_
                clear H92; intro a94 H94
                refine st_storeN rfl z_size35 rfl rfl (agg_cells _) (by repeat (first | exact Uh | apply Ut)) (q_one_c4b32b32 rfl rfl rfl rfl) (q_len_c4b32b32 (by first | assumption | exact Note.linkF_prev _ hl1 | exact Note.linkF_hash _ _ _ _ _) (by first | assumption | exact Note.linkF_prev _ hl1 | exact Note.linkF_hash _ _ _ _ _)) (q_len_c4b32b32 (by first | assumption | exact Note.linkF_prev _ hl1 | exact Note.linkF_hash _ _ _ _ _) (by first | assumption | exact Note.linkF_prev _ hl1 | exact Note.linkF_hash _ _ _ _ _)) (q_spl_c4b32b32_0_c4b32b32 (by first | assumption | exact Note.linkF_prev _ hl1 | exact Note.linkF_hash _ _ _ _ _) (by first | assumption | exact Note.linkF_prev _ hl1 | exact Note.linkF_hash _ _ _ _ _) (by first | assumption | exact Note.linkF_prev _ hl1 | exact Note.linkF_hash _ _ _ _ _) (by first | assumption | exact Note.linkF_prev _ hl1 | exact Note.linkF_hash _ _ _ _ _)) (by decide) rfl rfl H94 ?_
                clear H94; intro wx95 H95
                refine plain (y_assign rfl rfl) rfl rfl rfl H95 ?_
                clear H95; intro a96 H96
                refine fin ?_
                refine then_n ?_
                refine wp_ret ?_
                refine then_r ?_
                -- return 3
                refine retct rfl H96 rfl z_agg35 z_size35 (by repeat (first | exact Mh | apply Mt)) (q_len_c4b32b32 (by first | assumption | exact Note.linkF_prev _ hl1 | exact Note.linkF_hash _ _ _ _ _) (by first | assumption | exact Note.linkF_prev _ hl1 | exact Note.linkF_hash _ _ _ _ _)) rfl ?_
                refine ⟨_, [], rfl, ⟨?_, rfl⟩, H96.sep.sub (List.nil_sublist _)⟩
                first | (rw [Note.readReceipt_none (by first | exact Note.fields_none2 hfi | exact Note.fields_none1 (by assumption))]; rfl) | (rw [Note.readReceipt_bad (Note.fields_some (by assumption) hfi) (by rintro ⟨h1, h2, h3, _⟩; simp only [List.length_drop] at h1; omega)]; rfl) | (rw [Note.readReceipt_link hfs (by simp only [List.length_drop]; omega) hl1 hl2 (.inl (by assumption))]; rfl) | (rw [Note.readReceipt_link hfs (by simp only [List.length_drop]; omega) hl1 hl2 (.inr (by assumption))]; rfl) | (obtain ⟨e1, e2⟩ := Note.readReceipt_fine hfs (by simp only [List.length_drop]; omega) hl1 hl2 (by omega) (by assumption); rw [e1, ← e2]; rfl)
            · first
              | fail
              | skip
                clear H84; intro H97
                try simp only [decide_eq_true_eq, decide_eq_false_iff_not, Bool.not_eq_true', Bool.not_eq_false', Bool.and_eq_true, Bool.not_eq_true, Bool.not_eq_false] at hg85
                refine plain (y_move rfl rfl) rfl rfl rfl H97 ?_
                clear H97; intro a98 H98
                refine plain (y_ixR rfl Tryd.underlying49 z_size9 rfl rfl (by omega) (by omega) (rd_row (by repeat (first | exact Mh | apply Mt))) (by rw [List.length_map]; first | omega | (simp; done))) rfl rfl rfl H98 ?_
                clear H98; intro a99 H99
                refine plain (y_loadR rfl z_agg9 rfl (rd_row (by repeat (first | exact Mh | apply Mt))) (Note.rest_at 3 2 (by omega))) rfl rfl rfl H99 ?_
                clear H99; intro a100 H100
                refine plain (y_slen rfl Tryd.underlying9 rfl) rfl rfl rfl H100 ?_
                clear H100; intro a101 H101
                refine plain (y_neq rfl rfl rfl) rfl rfl rfl H101 ?_
                clear H101; intro a102 H102
                refine plain (y_pick_f rfl rfl rfl) rfl rfl rfl H102 ?_
                clear H102; intro a103 H103
                refine fin ?_
                refine then_n ?_
                refine cnd H103 rfl (fun hc104 => ?_) (fun hc104 => ?_) -- cond 4
                · skip
                  try simp only [decide_eq_true_eq, decide_eq_false_iff_not, Bool.not_eq_true', Bool.not_eq_false', Bool.and_eq_true, Bool.not_eq_true, Bool.not_eq_false] at hc104
                  refine wp_seq ?_
                  refine reg ?_
                  refine plain (y_build rfl z_zeroN35 z_places35 rfl lay_n) rfl rfl rfl H103 ?_
                  clear H103; intro a105 H105
                  refine st_storeN rfl z_size35 rfl rfl (agg_cells _) (by repeat (first | exact Uh | apply Ut)) (q_one_c4b32b32 rfl rfl rfl rfl) (q_len_c4b32b32 (by first | assumption | exact Note.linkF_prev _ hl1 | exact Note.linkF_hash _ _ _ _ _) (by first | assumption | exact Note.linkF_prev _ hl1 | exact Note.linkF_hash _ _ _ _ _)) (q_len_c4b32b32 (by first | assumption | exact Note.linkF_prev _ hl1 | exact Note.linkF_hash _ _ _ _ _) (by first | assumption | exact Note.linkF_prev _ hl1 | exact Note.linkF_hash _ _ _ _ _)) (q_spl_c4b32b32_0_c4b32b32 (by first | assumption | exact Note.linkF_prev _ hl1 | exact Note.linkF_hash _ _ _ _ _) (by first | assumption | exact Note.linkF_prev _ hl1 | exact Note.linkF_hash _ _ _ _ _) (by first | assumption | exact Note.linkF_prev _ hl1 | exact Note.linkF_hash _ _ _ _ _) (by first | assumption | exact Note.linkF_prev _ hl1 | exact Note.linkF_hash _ _ _ _ _)) (by decide) rfl rfl H105 ?_
                  clear H105; intro wx106 H106
                  refine plain (y_assign rfl rfl) rfl rfl rfl H106 ?_
                  clear H106; intro a107 H107
                  refine fin ?_
                  refine then_n ?_
                  refine wp_ret ?_
                  refine then_r ?_
                  -- return 4
                  refine retct rfl H107 rfl z_agg35 z_size35 (by repeat (first | exact Mh | apply Mt)) (q_len_c4b32b32 (by first | assumption | exact Note.linkF_prev _ hl1 | exact Note.linkF_hash _ _ _ _ _) (by first | assumption | exact Note.linkF_prev _ hl1 | exact Note.linkF_hash _ _ _ _ _)) rfl ?_
                  refine ⟨_, [], rfl, ⟨?_, rfl⟩, H107.sep.sub (List.nil_sublist _)⟩
                  first | (rw [Note.readReceipt_none (by first | exact Note.fields_none2 hfi | exact Note.fields_none1 (by assumption))]; rfl) | (rw [Note.readReceipt_bad (Note.fields_some (by assumption) hfi) (by rintro ⟨h1, h2, h3, _⟩; simp only [List.length_drop] at h1; omega)]; rfl) | (rw [Note.readReceipt_link hfs (by simp only [List.length_drop]; omega) hl1 hl2 (.inl (by assumption))]; rfl) | (rw [Note.readReceipt_link hfs (by simp only [List.length_drop]; omega) hl1 hl2 (.inr (by assumption))]; rfl) | (obtain ⟨e1, e2⟩ := Note.readReceipt_fine hfs (by simp only [List.length_drop]; omega) hl1 hl2 (by omega) (by assumption); rw [e1, ← e2]; rfl)
                · skip
                  try simp only [decide_eq_true_eq, decide_eq_false_iff_not, Bool.not_eq_true', Bool.not_eq_false', Bool.and_eq_true, Bool.not_eq_true, Bool.not_eq_false] at hc104
                  refine wp_skip ?_
                  refine then_n ?_
                  refine wp_seq ?_
                  have hl1 : (((Note.whole s).1.drop 3).getD 1 []).length = 32 := by omega
                  have hl2 : (((Note.whole s).1.drop 3).getD 2 []).length = 32 := by omega
                  have hfs := Note.fields_some (by assumption) hfi
                  have wfr : Note.Receipt.Wf (Note.receiptOf [n0, n1, n2] ((Note.whole s).1.drop 3)) := Note.wf3r hnr hLb (by simp only [List.length_drop]; omega) hl1 hl2
                  refine wp_cut (fun aC wC => ∃ bC : Nat, St Tryd.f28.ntmps [] w ([(2, .pointer (some ⟨b1, 0, none⟩)), (4, .slice ArL (Note.whole s).1.length crL), (8, .pointer (some ⟨bC, 0, none⟩)), (9, .int .i64 (Note.link (((Note.whole s).1.drop 3).getD 1 []) n0 n1 n2 (((Note.whole s).1.drop 3).getD 0 [])).2)]) ([It.blk bC 35 (Note.Receipt.cells (Note.link (((Note.whole s).1.drop 3).getD 1 []) n0 n1 n2 (((Note.whole s).1.drop 3).getD 0 [])).1), It.row 9 1 (.slice ArL (Note.whole s).1.length crL) (Note.whole s).1.length ((Note.whole s).1.map str), It.blk b1 35 (Note.Receipt.cells Note.Receipt.zero)]) aC wC) ?_ ?_
                  · skip
                    refine hreg _ (fun _ h => h) (by kernel_rfl) H103 ?_
                    clear H103; intro wx108 H108
                    refine htake 0 rfl (by kernel_rfl) (y_move rfl rfl) rfl rfl rfl (fun _ h => (h.sub (by first | exact S0 | exact S1 | repeat (first | exact S1 | exact S0 | apply S2 | apply S3)))) H108 ?_
                    clear H108; intro a109 H109
                    refine htake 1 rfl (by kernel_rfl) (y_ixR rfl Tryd.underlying49 z_size9 rfl rfl (by omega) (by omega) (rd_row (by repeat (first | exact Mh | apply Mt))) (by rw [List.length_map]; first | omega | (simp; done))) rfl rfl rfl (fun _ h => (h.sub (by first | exact S0 | exact S1 | repeat (first | exact S1 | exact S0 | apply S2 | apply S3)))) H109 ?_
                    clear H109; intro a110 H110
                    refine htake 2 rfl (by kernel_rfl) (y_loadR rfl z_agg9 rfl (rd_row (by repeat (first | exact Mh | apply Mt))) (Note.rest_at 3 1 (by omega))) rfl rfl rfl (fun _ h => (h.sub (by first | exact S0 | exact S1 | repeat (first | exact S1 | exact S0 | apply S2 | apply S3)))) H110 ?_
                    clear H110; intro a111 H111
                    refine htake 4 rfl (by kernel_rfl) (y_move rfl rfl) rfl rfl rfl (fun _ h => (h.sub (by first | exact S0 | exact S1 | repeat (first | exact S1 | exact S0 | apply S2 | apply S3)))) H111 ?_
                    clear H111; intro a112 H112
                    refine htake 5 rfl (by kernel_rfl) (y_ixR rfl Tryd.underlying83 z_size3 rfl rfl (by omega) (by omega) (rd_row (by repeat (first | exact Mh | apply Mt))) (by rw [List.length_map]; first | omega | (simp; done))) rfl rfl rfl (fun _ h => (h.sub (by first | exact S0 | exact S1 | repeat (first | exact S1 | exact S0 | apply S2 | apply S3)))) H112 ?_
                    clear H112; intro a113 H113
                    refine htake 6 rfl (by kernel_rfl) (y_loadR rfl z_agg3 rfl (rd_row (by repeat (first | exact Mh | apply Mt))) rfl) rfl rfl rfl (fun _ h => (h.sub (by first | exact S0 | exact S1 | repeat (first | exact S1 | exact S0 | apply S2 | apply S3)))) H113 ?_
                    clear H113; intro a114 H114
                    refine htake 7 rfl (by kernel_rfl) (y_move rfl rfl) rfl rfl rfl (fun _ h => (h.sub (by first | exact S0 | exact S1 | repeat (first | exact S1 | exact S0 | apply S2 | apply S3)))) H114 ?_
                    clear H114; intro a115 H115
                    refine htake 8 rfl (by kernel_rfl) (y_ixR rfl Tryd.underlying83 z_size3 rfl rfl (by omega) (by omega) (rd_row (by repeat (first | exact Mh | apply Mt))) (by rw [List.length_map]; first | omega | (simp; done))) rfl rfl rfl (fun _ h => (h.sub (by first | exact S0 | exact S1 | repeat (first | exact S1 | exact S0 | apply S2 | apply S3)))) H115 ?_
                    clear H115; intro a116 H116
                    refine htake 9 rfl (by kernel_rfl) (y_loadR rfl z_agg3 rfl (rd_row (by repeat (first | exact Mh | apply Mt))) rfl) rfl rfl rfl (fun _ h => (h.sub (by first | exact S0 | exact S1 | repeat (first | exact S1 | exact S0 | apply S2 | apply S3)))) H116 ?_
                    clear H116; intro a117 H117
                    refine htake 10 rfl (by kernel_rfl) (y_move rfl rfl) rfl rfl rfl (fun _ h => (h.sub (by first | exact S0 | exact S1 | repeat (first | exact S1 | exact S0 | apply S2 | apply S3)))) H117 ?_
                    clear H117; intro a118 H118
                    refine htake 11 rfl (by kernel_rfl) (y_ixR rfl Tryd.underlying83 z_size3 rfl rfl (by omega) (by omega) (rd_row (by repeat (first | exact Mh | apply Mt))) (by rw [List.length_map]; first | omega | (simp; done))) rfl rfl rfl (fun _ h => (h.sub (by first | exact S0 | exact S1 | repeat (first | exact S1 | exact S0 | apply S2 | apply S3)))) H118 ?_
                    clear H118; intro a119 H119
                    refine htake 12 rfl (by kernel_rfl) (y_loadR rfl z_agg3 rfl (rd_row (by repeat (first | exact Mh | apply Mt))) rfl) rfl rfl rfl (fun _ h => (h.sub (by first | exact S0 | exact S1 | repeat (first | exact S1 | exact S0 | apply S2 | apply S3)))) H119 ?_
                    clear H119; intro a120 H120
                    refine htake 13 rfl (by kernel_rfl) (y_move rfl rfl) rfl rfl rfl (fun _ h => (h.sub (by first | exact S0 | exact S1 | repeat (first | exact S1 | exact S0 | apply S2 | apply S3)))) H120 ?_
                    clear H120; intro a121 H121
                    refine htake 14 rfl (by kernel_rfl) (y_ixR rfl Tryd.underlying49 z_size9 rfl rfl (by omega) (by omega) (rd_row (by repeat (first | exact Mh | apply Mt))) (by rw [List.length_map]; first | omega | (simp; done))) rfl rfl rfl (fun _ h => (h.sub (by first | exact S0 | exact S1 | repeat (first | exact S1 | exact S0 | apply S2 | apply S3)))) H121 ?_
                    clear H121; intro a122 H122
                    refine htake 15 rfl (by kernel_rfl) (y_loadR rfl z_agg9 rfl (rd_row (by repeat (first | exact Mh | apply Mt))) (Note.rest_at 3 0 (by omega))) rfl rfl rfl (fun _ h => (h.sub (by first | exact S0 | exact S1 | repeat (first | exact S1 | exact S0 | apply S2 | apply S3)))) H122 ?_
                    clear H122; intro a123 H123
                    refine hgo2 3 20 rfl rfl (by kernel_rfl) ?_ ?_
                    · skip
                      refine st_callg rfl z_call54 rfl rfl rfl rfl H123 (rhash (((Note.whole s).1.drop 3).getD 1 []) hl1 _) ?_
                      clear H123; intro a124 wx124 H124
                      refine hfin (H124.sep.sub (by first | exact S0 | exact S1 | repeat (first | exact S1 | exact S0 | apply S2 | apply S3))) ?_
                      refine hgo2 16 20 rfl rfl (by kernel_rfl) ?_ ?_
                      · skip
                        refine st_callg rfl z_call20 rfl rfl rfl rfl H124 (rlink (((Note.whole s).1.drop 3).getD 1 []) hl1 n0 n1 n2 wfr.index wfr.kind wfr.time (((Note.whole s).1.drop 3).getD 0 []) wfr.body) ?_
                        clear H124; intro a125 wx125 H125
                        refine hfin (H125.sep.sub (by first | exact S0 | exact S1 | repeat (first | exact S1 | exact S0 | apply S2 | apply S3))) ?_
                        refine htake 17 rfl (by kernel_rfl) (y_move rfl rfl) rfl rfl rfl (fun _ h => (h.sub (by first | exact S0 | exact S1 | repeat (first | exact S1 | exact S0 | apply S2 | apply S3)))) H125 ?_
                        clear H125; intro a126 H126
                        refine htake 18 rfl (by kernel_rfl) (y_extract rfl rfl rfl) rfl rfl rfl (fun _ h => (h.sub (by first | exact S0 | exact S1 | repeat (first | exact S1 | exact S0 | apply S2 | apply S3)))) H126 ?_
                        clear H126; intro a127 H127
                        refine htake 19 rfl (by kernel_rfl) (y_extract rfl rfl rfl) rfl rfl rfl (fun _ h => (h.sub (by first | exact S0 | exact S1 | repeat (first | exact S1 | exact S0 | apply S2 | apply S3)))) H127 ?_
                        clear H127; intro a128 H128
                        refine hgo 20 rfl (by kernel_rfl) ?_
                        refine st_alloc rfl z_zeroN35 rfl rfl rfl H128 ?_
                        clear H128; intro b129 a129 wx129 H129
                        refine hfin (H129.sep.sub (by first | exact S0 | exact S1 | repeat (first | exact S1 | exact S0 | apply S2 | apply S3))) ?_
                        refine hgo 21 rfl (by kernel_rfl) ?_
                        refine st_storeN rfl z_size35 rfl rfl (agg_cells _) (by repeat (first | exact Uh | apply Ut)) (q_one_c4b32b32 rfl rfl rfl rfl) (q_len_c4b32b32 (by first | assumption | exact Note.linkF_prev _ hl1 | exact Note.linkF_hash _ _ _ _ _) (by first | assumption | exact Note.linkF_prev _ hl1 | exact Note.linkF_hash _ _ _ _ _)) (q_len_c4b32b32 (by first | assumption | exact Note.linkF_prev _ hl1 | exact Note.linkF_hash _ _ _ _ _) (by first | assumption | exact Note.linkF_prev _ hl1 | exact Note.linkF_hash _ _ _ _ _)) (q_spl_c4b32b32_0_c4b32b32 (by first | assumption | exact Note.linkF_prev _ hl1 | exact Note.linkF_hash _ _ _ _ _) (by first | assumption | exact Note.linkF_prev _ hl1 | exact Note.linkF_hash _ _ _ _ _) (by first | assumption | exact Note.linkF_prev _ hl1 | exact Note.linkF_hash _ _ _ _ _) (by first | assumption | exact Note.linkF_prev _ hl1 | exact Note.linkF_hash _ _ _ _ _)) (by decide) rfl rfl H129 ?_
                        clear H129; intro wx130 H130
                        refine hfin (H130.sep.sub (by first | exact S0 | exact S1 | repeat (first | exact S1 | exact S0 | apply S2 | apply S3))) ?_
                        refine htake 22 rfl (by kernel_rfl) (y_assign rfl rfl) rfl rfl rfl (fun _ h => (h.sub (by first | exact S0 | exact S1 | repeat (first | exact S1 | exact S0 | apply S2 | apply S3)))) H130 ?_
                        clear H130; intro a131 H131
                        refine hdone (by kernel_rfl) ?_
                        refine cut_n ?_
                        exact ⟨_, (H131.drop (by first | exact S0 | exact S1 | repeat (first | exact S1 | exact S0 | apply S2 | apply S3))).weak ⟨rfl, rfl, rfl, rfl, trivial⟩ rfl⟩
                      · skip
                        refine st_alloc rfl z_zeroN35 rfl rfl rfl H124 ?_
                        clear H124; intro b132 a132 wx132 H132
                        refine hfin (H132.sep.sub (by first | exact S0 | exact S1 | repeat (first | exact S1 | exact S0 | apply S2 | apply S3))) ?_
                        refine hgo 16 rfl (by kernel_rfl) ?_
                        refine st_callg rfl z_call20 rfl rfl rfl rfl H132 (rlink (((Note.whole s).1.drop 3).getD 1 []) hl1 n0 n1 n2 wfr.index wfr.kind wfr.time (((Note.whole s).1.drop 3).getD 0 []) wfr.body) ?_
                        clear H132; intro a133 wx133 H133
                        refine hfin (H133.sep.sub (by first | exact S0 | exact S1 | repeat (first | exact S1 | exact S0 | apply S2 | apply S3))) ?_
                        refine htake 17 rfl (by kernel_rfl) (y_move rfl rfl) rfl rfl rfl (fun _ h => (h.sub (by first | exact S0 | exact S1 | repeat (first | exact S1 | exact S0 | apply S2 | apply S3)))) H133 ?_
                        clear H133; intro a134 H134
                        refine htake 18 rfl (by kernel_rfl) (y_extract rfl rfl rfl) rfl rfl rfl (fun _ h => (h.sub (by first | exact S0 | exact S1 | repeat (first | exact S1 | exact S0 | apply S2 | apply S3)))) H134 ?_
                        clear H134; intro a135 H135
                        refine htake 19 rfl (by kernel_rfl) (y_extract rfl rfl rfl) rfl rfl rfl (fun _ h => (h.sub (by first | exact S0 | exact S1 | repeat (first | exact S1 | exact S0 | apply S2 | apply S3)))) H135 ?_
                        clear H135; intro a136 H136
                        refine hgo 21 rfl (by kernel_rfl) ?_
                        refine st_storeN rfl z_size35 rfl rfl (agg_cells _) (by repeat (first | exact Uh | apply Ut)) (q_one_c4b32b32 rfl rfl rfl rfl) (q_len_c4b32b32 (by first | assumption | exact Note.linkF_prev _ hl1 | exact Note.linkF_hash _ _ _ _ _) (by first | assumption | exact Note.linkF_prev _ hl1 | exact Note.linkF_hash _ _ _ _ _)) (q_len_c4b32b32 (by first | assumption | exact Note.linkF_prev _ hl1 | exact Note.linkF_hash _ _ _ _ _) (by first | assumption | exact Note.linkF_prev _ hl1 | exact Note.linkF_hash _ _ _ _ _)) (q_spl_c4b32b32_0_c4b32b32 (by first | assumption | exact Note.linkF_prev _ hl1 | exact Note.linkF_hash _ _ _ _ _) (by first | assumption | exact Note.linkF_prev _ hl1 | exact Note.linkF_hash _ _ _ _ _) (by first | assumption | exact Note.linkF_prev _ hl1 | exact Note.linkF_hash _ _ _ _ _) (by first | assumption | exact Note.linkF_prev _ hl1 | exact Note.linkF_hash _ _ _ _ _)) (by decide) rfl rfl H136 ?_
                        clear H136; intro wx137 H137
                        refine hfin (H137.sep.sub (by first | exact S0 | exact S1 | repeat (first | exact S1 | exact S0 | apply S2 | apply S3))) ?_
                        refine htake 22 rfl (by kernel_rfl) (y_assign rfl rfl) rfl rfl rfl (fun _ h => (h.sub (by first | exact S0 | exact S1 | repeat (first | exact S1 | exact S0 | apply S2 | apply S3)))) H137 ?_
                        clear H137; intro a138 H138
                        refine hdone (by kernel_rfl) ?_
                        refine cut_n ?_
                        exact ⟨_, (H138.drop (by first | exact S0 | exact S1 | repeat (first | exact S1 | exact S0 | apply S2 | apply S3))).weak ⟨rfl, rfl, rfl, rfl, trivial⟩ rfl⟩
                    · skip
                      refine st_alloc rfl z_zeroN35 rfl rfl rfl H123 ?_
                      clear H123; intro b139 a139 wx139 H139
                      refine hfin (H139.sep.sub (by first | exact S0 | exact S1 | repeat (first | exact S1 | exact S0 | apply S2 | apply S3))) ?_
                      refine hgo 3 rfl (by kernel_rfl) ?_
                      refine st_callg rfl z_call54 rfl rfl rfl rfl H139 (rhash (((Note.whole s).1.drop 3).getD 1 []) hl1 _) ?_
                      clear H139; intro a140 wx140 H140
                      refine hfin (H140.sep.sub (by first | exact S0 | exact S1 | repeat (first | exact S1 | exact S0 | apply S2 | apply S3))) ?_
                      refine hgo 16 rfl (by kernel_rfl) ?_
                      refine st_callg rfl z_call20 rfl rfl rfl rfl H140 (rlink (((Note.whole s).1.drop 3).getD 1 []) hl1 n0 n1 n2 wfr.index wfr.kind wfr.time (((Note.whole s).1.drop 3).getD 0 []) wfr.body) ?_
                      clear H140; intro a141 wx141 H141
                      refine hfin (H141.sep.sub (by first | exact S0 | exact S1 | repeat (first | exact S1 | exact S0 | apply S2 | apply S3))) ?_
                      refine htake 17 rfl (by kernel_rfl) (y_move rfl rfl) rfl rfl rfl (fun _ h => (h.sub (by first | exact S0 | exact S1 | repeat (first | exact S1 | exact S0 | apply S2 | apply S3)))) H141 ?_
                      clear H141; intro a142 H142
                      refine htake 18 rfl (by kernel_rfl) (y_extract rfl rfl rfl) rfl rfl rfl (fun _ h => (h.sub (by first | exact S0 | exact S1 | repeat (first | exact S1 | exact S0 | apply S2 | apply S3)))) H142 ?_
                      clear H142; intro a143 H143
                      refine htake 19 rfl (by kernel_rfl) (y_extract rfl rfl rfl) rfl rfl rfl (fun _ h => (h.sub (by first | exact S0 | exact S1 | repeat (first | exact S1 | exact S0 | apply S2 | apply S3)))) H143 ?_
                      clear H143; intro a144 H144
                      refine hgo 21 rfl (by kernel_rfl) ?_
                      refine st_storeN rfl z_size35 rfl rfl (agg_cells _) (by repeat (first | exact Uh | apply Ut)) (q_one_c4b32b32 rfl rfl rfl rfl) (q_len_c4b32b32 (by first | assumption | exact Note.linkF_prev _ hl1 | exact Note.linkF_hash _ _ _ _ _) (by first | assumption | exact Note.linkF_prev _ hl1 | exact Note.linkF_hash _ _ _ _ _)) (q_len_c4b32b32 (by first | assumption | exact Note.linkF_prev _ hl1 | exact Note.linkF_hash _ _ _ _ _) (by first | assumption | exact Note.linkF_prev _ hl1 | exact Note.linkF_hash _ _ _ _ _)) (q_spl_c4b32b32_0_c4b32b32 (by first | assumption | exact Note.linkF_prev _ hl1 | exact Note.linkF_hash _ _ _ _ _) (by first | assumption | exact Note.linkF_prev _ hl1 | exact Note.linkF_hash _ _ _ _ _) (by first | assumption | exact Note.linkF_prev _ hl1 | exact Note.linkF_hash _ _ _ _ _) (by first | assumption | exact Note.linkF_prev _ hl1 | exact Note.linkF_hash _ _ _ _ _)) (by decide) rfl rfl H144 ?_
                      clear H144; intro wx145 H145
                      refine hfin (H145.sep.sub (by first | exact S0 | exact S1 | repeat (first | exact S1 | exact S0 | apply S2 | apply S3))) ?_
                      refine htake 22 rfl (by kernel_rfl) (y_assign rfl rfl) rfl rfl rfl (fun _ h => (h.sub (by first | exact S0 | exact S1 | repeat (first | exact S1 | exact S0 | apply S2 | apply S3)))) H145 ?_
                      clear H145; intro a146 H146
                      refine hdone (by kernel_rfl) ?_
                      refine cut_n ?_
                      exact ⟨_, (H146.drop (by first | exact S0 | exact S1 | repeat (first | exact S1 | exact S0 | apply S2 | apply S3))).weak ⟨rfl, rfl, rfl, rfl, trivial⟩ rfl⟩
                  · clear H103; intro a147 wx147 hI147
                    obtain ⟨bC, H147⟩ := hI147
                    refine then_n ?_
                    refine wp_seq ?_
                    refine wp_seq ?_
                    refine qreg (by kernel_rfl) (by kernel_rfl) H147 ?_
                    have F148 := H147.fr
                    clear H147
                    refine qplain (y_move rfl rfl) rfl rfl rfl F148 ?_
                    clear F148; intro a149 H149
                    refine qplain (y_neq rfl rfl rfl) rfl rfl rfl H149 ?_
                    clear H149; intro a150 H150
                    refine qplain (y_move rfl rfl) rfl rfl rfl H150 ?_
                    clear H150; intro a151 H151
                    refine qpart (d := 68) H151 rfl (fun hg152 => ?_) (fun hg152 => ?_)
                    · first
                      | fail
                      | skip
                        clear H151; intro H153
                        try simp only [decide_eq_true_eq, decide_eq_false_iff_not, Bool.not_eq_true', Bool.not_eq_false', Bool.and_eq_true, Bool.not_eq_true, Bool.not_eq_false] at hg152
                        refine qskip rfl rfl rfl H153 ?_
                        clear H153; intro a154 H154
                        refine qskip rfl rfl rfl H154 ?_
                        clear H154; intro a155 H155
                        refine qskip rfl rfl rfl H155 ?_
                        clear H155; intro a156 H156
                        refine qskip rfl rfl rfl H156 ?_
                        clear H156; intro a157 H157
                        refine qskip rfl rfl rfl H157 ?_
                        clear H157; intro a158 H158
                        refine qskip rfl rfl rfl H158 ?_
                        clear H158; intro a159 H159
                        refine qskip rfl rfl rfl H159 ?_
                        clear H159; intro a160 H160
                        refine qplain (y_pick_t rfl rfl rfl) rfl rfl rfl H160 ?_
                        clear H160; intro a161 H161
                        refine qfin H161 ?_
                        clear H161; intro wx162 H162
                        refine then_n ?_
                        refine cnd_t H162 rfl ?_
                        refine wp_seq ?_
                        refine reg ?_
                        refine plain (y_build rfl z_zeroN35 z_places35 rfl lay_n) rfl rfl rfl H162 ?_
                        clear H162; intro a164 H164
                        refine st_storeN rfl z_size35 rfl rfl (agg_cells _) (by repeat (first | exact Uh | apply Ut)) (q_one_c4b32b32 rfl rfl rfl rfl) (q_len_c4b32b32 (by first | assumption | exact Note.linkF_prev _ hl1 | exact Note.linkF_hash _ _ _ _ _) (by first | assumption | exact Note.linkF_prev _ hl1 | exact Note.linkF_hash _ _ _ _ _)) (q_len_c4b32b32 (by first | assumption | exact Note.linkF_prev _ hl1 | exact Note.linkF_hash _ _ _ _ _) (by first | assumption | exact Note.linkF_prev _ hl1 | exact Note.linkF_hash _ _ _ _ _)) (q_spl_c4b32b32_0_c4b32b32 (by first | assumption | exact Note.linkF_prev _ hl1 | exact Note.linkF_hash _ _ _ _ _) (by first | assumption | exact Note.linkF_prev _ hl1 | exact Note.linkF_hash _ _ _ _ _) (by first | assumption | exact Note.linkF_prev _ hl1 | exact Note.linkF_hash _ _ _ _ _) (by first | assumption | exact Note.linkF_prev _ hl1 | exact Note.linkF_hash _ _ _ _ _)) (by decide) rfl rfl H164 ?_
                        clear H164; intro wx165 H165
                        refine plain (y_assign rfl rfl) rfl rfl rfl H165 ?_
                        clear H165; intro a166 H166
                        refine fin ?_
                        refine then_n ?_
                        refine wp_ret ?_
                        refine then_r ?_
                        -- return 5
                        refine retct rfl H166 rfl z_agg35 z_size35 (by repeat (first | exact Mh | apply Mt)) (q_len_c4b32b32 (by first | assumption | exact Note.linkF_prev _ hl1 | exact Note.linkF_hash _ _ _ _ _) (by first | assumption | exact Note.linkF_prev _ hl1 | exact Note.linkF_hash _ _ _ _ _)) rfl ?_
                        refine ⟨_, [], rfl, ⟨?_, rfl⟩, H166.sep.sub (List.nil_sublist _)⟩
                        first | (rw [Note.readReceipt_none (by first | exact Note.fields_none2 hfi | exact Note.fields_none1 (by assumption))]; rfl) | (rw [Note.readReceipt_bad (Note.fields_some (by assumption) hfi) (by rintro ⟨h1, h2, h3, _⟩; simp only [List.length_drop] at h1; omega)]; rfl) | (rw [Note.readReceipt_link hfs (by simp only [List.length_drop]; omega) hl1 hl2 (.inl (by assumption))]; rfl) | (rw [Note.readReceipt_link hfs (by simp only [List.length_drop]; omega) hl1 hl2 (.inr (by assumption))]; rfl) | (obtain ⟨e1, e2⟩ := Note.readReceipt_fine hfs (by simp only [List.length_drop]; omega) hl1 hl2 (by omega) (by assumption); rw [e1, ← e2]; rfl)
                    · first
                      | fail
                      | skip
                        clear H151; intro H167
                        try simp only [decide_eq_true_eq, decide_eq_false_iff_not, Bool.not_eq_true', Bool.not_eq_false', Bool.and_eq_true, Bool.not_eq_true, Bool.not_eq_false] at hg152
                        refine qplain (y_fieldB rfl z_field35_5 rfl (by first | (simp only [Nat.zero_add, Nat.add_zero, Nat.reduceAdd]; rfl) | rfl)) rfl rfl rfl H167 ?_
                        clear H167; intro a168 H168
                        refine qplain (y_loadAB rfl z_agg23 z_size23 rfl (by repeat (first | exact Mh | apply Mt)) (q_ld_c4b32b32_36_32 (by first | assumption | exact Note.linkF_prev _ hl1 | exact Note.linkF_hash _ _ _ _ _) (by first | assumption | exact Note.linkF_prev _ hl1 | exact Note.linkF_hash _ _ _ _ _)) (q_len_b32 (by first | assumption | exact Note.linkF_prev _ hl1 | exact Note.linkF_hash _ _ _ _ _))) rfl rfl rfl H168 ?_
                        clear H168; intro a169 H169
                        refine qcallg rfl z_call40 rfl rfl rfl rfl H169 (fun w hs => (rbytes (Note.link (((Note.whole s).1.drop 3).getD 1 []) n0 n1 n2 (((Note.whole s).1.drop 3).getD 0 [])).1.hash (Note.linkF_hash _ _ _ _ _) _)) ?_
                        clear H169; intro a170 H170
                        refine qplain (y_move rfl rfl) rfl rfl rfl H170 ?_
                        clear H170; intro a171 H171
                        refine qplain (y_ixR rfl Tryd.underlying49 z_size9 rfl rfl (by omega) (by omega) (rd_row (by repeat (first | exact Mh | apply Mt))) (by rw [List.length_map]; first | omega | (simp; done))) rfl rfl rfl H171 ?_
                        clear H171; intro a172 H172
                        refine qplain (y_loadR rfl z_agg9 rfl (rd_row (by repeat (first | exact Mh | apply Mt))) (Note.rest_at 3 2 (by omega))) rfl rfl rfl H172 ?_
                        clear H172; intro a173 H173
                        refine qplain (y_sneq rfl rfl rfl) rfl rfl rfl H173 ?_
                        clear H173; intro a174 H174
                        refine qplain (y_pick_f rfl rfl rfl) rfl rfl rfl H174 ?_
                        clear H174; intro a175 H175
                        refine qfin H175 ?_
                        clear H175; intro wx176 H176
                        refine then_n ?_
                        refine cnd H176 rfl (fun hc177 => ?_) (fun hc177 => ?_) -- cond 6
                        · skip
                          try simp only [decide_eq_true_eq, decide_eq_false_iff_not, Bool.not_eq_true', Bool.not_eq_false', Bool.and_eq_true, Bool.not_eq_true, Bool.not_eq_false] at hc177
                          refine wp_seq ?_
                          refine reg ?_
                          refine plain (y_build rfl z_zeroN35 z_places35 rfl lay_n) rfl rfl rfl H176 ?_
                          clear H176; intro a178 H178
                          refine st_storeN rfl z_size35 rfl rfl (agg_cells _) (by repeat (first | exact Uh | apply Ut)) (q_one_c4b32b32 rfl rfl rfl rfl) (q_len_c4b32b32 (by first | assumption | exact Note.linkF_prev _ hl1 | exact Note.linkF_hash _ _ _ _ _) (by first | assumption | exact Note.linkF_prev _ hl1 | exact Note.linkF_hash _ _ _ _ _)) (q_len_c4b32b32 (by first | assumption | exact Note.linkF_prev _ hl1 | exact Note.linkF_hash _ _ _ _ _) (by first | assumption | exact Note.linkF_prev _ hl1 | exact Note.linkF_hash _ _ _ _ _)) (q_spl_c4b32b32_0_c4b32b32 (by first | assumption | exact Note.linkF_prev _ hl1 | exact Note.linkF_hash _ _ _ _ _) (by first | assumption | exact Note.linkF_prev _ hl1 | exact Note.linkF_hash _ _ _ _ _) (by first | assumption | exact Note.linkF_prev _ hl1 | exact Note.linkF_hash _ _ _ _ _) (by first | assumption | exact Note.linkF_prev _ hl1 | exact Note.linkF_hash _ _ _ _ _)) (by decide) rfl rfl H178 ?_
                          clear H178; intro wx179 H179
                          refine plain (y_assign rfl rfl) rfl rfl rfl H179 ?_
                          clear H179; intro a180 H180
                          refine fin ?_
                          refine then_n ?_
                          refine wp_ret ?_
                          refine then_r ?_
                          -- return 6
                          refine retct rfl H180 rfl z_agg35 z_size35 (by repeat (first | exact Mh | apply Mt)) (q_len_c4b32b32 (by first | assumption | exact Note.linkF_prev _ hl1 | exact Note.linkF_hash _ _ _ _ _) (by first | assumption | exact Note.linkF_prev _ hl1 | exact Note.linkF_hash _ _ _ _ _)) rfl ?_
                          refine ⟨_, [], rfl, ⟨?_, rfl⟩, H180.sep.sub (List.nil_sublist _)⟩
                          first | (rw [Note.readReceipt_none (by first | exact Note.fields_none2 hfi | exact Note.fields_none1 (by assumption))]; rfl) | (rw [Note.readReceipt_bad (Note.fields_some (by assumption) hfi) (by rintro ⟨h1, h2, h3, _⟩; simp only [List.length_drop] at h1; omega)]; rfl) | (rw [Note.readReceipt_link hfs (by simp only [List.length_drop]; omega) hl1 hl2 (.inl (by assumption))]; rfl) | (rw [Note.readReceipt_link hfs (by simp only [List.length_drop]; omega) hl1 hl2 (.inr (by assumption))]; rfl) | (obtain ⟨e1, e2⟩ := Note.readReceipt_fine hfs (by simp only [List.length_drop]; omega) hl1 hl2 (by omega) (by assumption); rw [e1, ← e2]; rfl)
                        · skip
                          try simp only [decide_eq_true_eq, decide_eq_false_iff_not, Bool.not_eq_true', Bool.not_eq_false', Bool.and_eq_true, Bool.not_eq_true, Bool.not_eq_false] at hc177
                          refine wp_skip ?_
                          refine then_n ?_
                          refine wp_seq ?_
                          refine reg ?_
                          refine plain (y_loadAB rfl z_agg35 z_size35 rfl (by repeat (first | exact Mh | apply Mt)) (q_ld_c4b32b32_0_68 (by first | assumption | exact Note.linkF_prev _ hl1 | exact Note.linkF_hash _ _ _ _ _) (by first | assumption | exact Note.linkF_prev _ hl1 | exact Note.linkF_hash _ _ _ _ _)) (q_len_c4b32b32 (by first | assumption | exact Note.linkF_prev _ hl1 | exact Note.linkF_hash _ _ _ _ _) (by first | assumption | exact Note.linkF_prev _ hl1 | exact Note.linkF_hash _ _ _ _ _))) rfl rfl rfl H176 ?_
                          clear H176; intro a181 H181
                          refine st_storeN rfl z_size35 rfl rfl (agg_cells _) (by repeat (first | exact Uh | apply Ut)) (q_one_c4b32b32 rfl rfl rfl rfl) (q_len_c4b32b32 (by first | assumption | exact Note.linkF_prev _ hl1 | exact Note.linkF_hash _ _ _ _ _) (by first | assumption | exact Note.linkF_prev _ hl1 | exact Note.linkF_hash _ _ _ _ _)) (q_len_c4b32b32 (by first | assumption | exact Note.linkF_prev _ hl1 | exact Note.linkF_hash _ _ _ _ _) (by first | assumption | exact Note.linkF_prev _ hl1 | exact Note.linkF_hash _ _ _ _ _)) (q_spl_c4b32b32_0_c4b32b32 (by first | assumption | exact Note.linkF_prev _ hl1 | exact Note.linkF_hash _ _ _ _ _) (by first | assumption | exact Note.linkF_prev _ hl1 | exact Note.linkF_hash _ _ _ _ _) (by first | assumption | exact Note.linkF_prev _ hl1 | exact Note.linkF_hash _ _ _ _ _) (by first | assumption | exact Note.linkF_prev _ hl1 | exact Note.linkF_hash _ _ _ _ _)) (by decide) rfl rfl H181 ?_
                          clear H181; intro wx182 H182
                          refine plain (y_assign rfl rfl) rfl rfl rfl H182 ?_
                          clear H182; intro a183 H183
                          refine fin ?_
                          refine then_n ?_
                          refine wp_ret ?_
                          -- return 7
                          refine retct rfl H183 rfl z_agg35 z_size35 (by repeat (first | exact Mh | apply Mt)) (q_len_c4b32b32 (by first | assumption | exact Note.linkF_prev _ hl1 | exact Note.linkF_hash _ _ _ _ _) (by first | assumption | exact Note.linkF_prev _ hl1 | exact Note.linkF_hash _ _ _ _ _)) rfl ?_
                          refine ⟨_, [], rfl, ⟨?_, rfl⟩, H183.sep.sub (List.nil_sublist _)⟩
                          first | (rw [Note.readReceipt_none (by first | exact Note.fields_none2 hfi | exact Note.fields_none1 (by assumption))]; rfl) | (rw [Note.readReceipt_bad (Note.fields_some (by assumption) hfi) (by rintro ⟨h1, h2, h3, _⟩; simp only [List.length_drop] at h1; omega)]; rfl) | (rw [Note.readReceipt_link hfs (by simp only [List.length_drop]; omega) hl1 hl2 (.inl (by assumption))]; rfl) | (rw [Note.readReceipt_link hfs (by simp only [List.length_drop]; omega) hl1 hl2 (.inr (by assumption))]; rfl) | (obtain ⟨e1, e2⟩ := Note.readReceipt_fine hfs (by simp only [List.length_drop]; omega) hl1 hl2 (by omega) (by assumption); rw [e1, ← e2]; rfl)
  · skip
    simp only [List.nil_append] at H11
    refine plain (y_move rfl rfl) rfl rfl rfl H11 ?_
    clear H11; intro a184 H184
    refine plain (y_extract rfl rfl rfl) rfl rfl rfl H184 ?_
    clear H184; intro a185 H185
    refine plain (y_extract rfl rfl rfl) rfl rfl rfl H185 ?_
    clear H185; intro a186 H186
    refine plain (y_assign rfl rfl) rfl rfl rfl H186 ?_
    clear H186; intro a187 H187
    refine plain (y_assign rfl rfl) rfl rfl rfl H187 ?_
    clear H187; intro a188 H188
    refine fin ?_
    refine then_n ?_
    refine wp_seq ?_
    refine wp_seq ?_
    refine reg ?_
    refine plain (y_move rfl rfl) rfl rfl rfl H188 ?_
    clear H188; intro a189 H189
    refine plain (y_neq rfl rfl rfl) rfl rfl rfl H189 ?_
    clear H189; intro a190 H190
    refine plain (y_move rfl rfl) rfl rfl rfl H190 ?_
    clear H190; intro a191 H191
    refine Sx.part (d := 22) H191 rfl (fun hg192 => ?_) (fun hg192 => ?_)
    · first
      | fail
      | skip
        clear H191; intro H193
        try simp only [decide_eq_true_eq, decide_eq_false_iff_not, Bool.not_eq_true', Bool.not_eq_false', Bool.and_eq_true, Bool.not_eq_true, Bool.not_eq_false] at hg192
        refine skip rfl rfl rfl H193 ?_
        clear H193; intro a194 H194
        refine skip rfl rfl rfl H194 ?_
        clear H194; intro a195 H195
        refine plain (y_pick_t rfl rfl rfl) rfl rfl rfl H195 ?_
        clear H195; intro a196 H196
        refine plain (y_move rfl rfl) rfl rfl rfl H196 ?_
        clear H196; intro a197 H197
        refine skip rfl rfl rfl H197 ?_
        clear H197; intro a198 H198
        refine skip rfl rfl rfl H198 ?_
        clear H198; intro a199 H199
        refine skip rfl rfl rfl H199 ?_
        clear H199; intro a200 H200
        refine plain (y_pick_t rfl rfl rfl) rfl rfl rfl H200 ?_
        clear H200; intro a201 H201
        refine plain (y_move rfl rfl) rfl rfl rfl H201 ?_
        clear H201; intro a202 H202
        refine skip rfl rfl rfl H202 ?_
        clear H202; intro a203 H203
        refine skip rfl rfl rfl H203 ?_
        clear H203; intro a204 H204
        refine skip rfl rfl rfl H204 ?_
        clear H204; intro a205 H205
        refine skip rfl rfl rfl H205 ?_
        clear H205; intro a206 H206
        refine skip rfl rfl rfl H206 ?_
        clear H206; intro a207 H207
        refine plain (y_pick_t rfl rfl rfl) rfl rfl rfl H207 ?_
        clear H207; intro a208 H208
        refine plain (y_move rfl rfl) rfl rfl rfl H208 ?_
        clear H208; intro a209 H209
        refine skip rfl rfl rfl H209 ?_
        clear H209; intro a210 H210
        refine skip rfl rfl rfl H210 ?_
        clear H210; intro a211 H211
        refine skip rfl rfl rfl H211 ?_
        clear H211; intro a212 H212
        refine skip rfl rfl rfl H212 ?_
        clear H212; intro a213 H213
        refine skip rfl rfl rfl H213 ?_
        clear H213; intro a214 H214
        refine plain (y_pick_t rfl rfl rfl) rfl rfl rfl H214 ?_
        clear H214; intro a215 H215
        refine fin ?_
        refine then_n ?_
        refine cnd_t H215 rfl ?_
        refine wp_seq ?_
        refine reg ?_
        refine plain (y_build rfl z_zeroN35 z_places35 rfl lay_n) rfl rfl rfl H215 ?_
        clear H215; intro a217 H217
        refine st_storeN rfl z_size35 rfl rfl (agg_cells _) (by repeat (first | exact Uh | apply Ut)) (q_one_c4b32b32 rfl rfl rfl rfl) (q_len_c4b32b32 (by first | assumption | exact Note.linkF_prev _ hl1 | exact Note.linkF_hash _ _ _ _ _) (by first | assumption | exact Note.linkF_prev _ hl1 | exact Note.linkF_hash _ _ _ _ _)) (q_len_c4b32b32 (by first | assumption | exact Note.linkF_prev _ hl1 | exact Note.linkF_hash _ _ _ _ _) (by first | assumption | exact Note.linkF_prev _ hl1 | exact Note.linkF_hash _ _ _ _ _)) (q_spl_c4b32b32_0_c4b32b32 (by first | assumption | exact Note.linkF_prev _ hl1 | exact Note.linkF_hash _ _ _ _ _) (by first | assumption | exact Note.linkF_prev _ hl1 | exact Note.linkF_hash _ _ _ _ _) (by first | assumption | exact Note.linkF_prev _ hl1 | exact Note.linkF_hash _ _ _ _ _) (by first | assumption | exact Note.linkF_prev _ hl1 | exact Note.linkF_hash _ _ _ _ _)) (by decide) rfl rfl H217 ?_
        clear H217; intro wx218 H218
        refine plain (y_assign rfl rfl) rfl rfl rfl H218 ?_
        clear H218; intro a219 H219
        refine fin ?_
        refine then_n ?_
        refine wp_ret ?_
        refine then_r ?_
        -- return 8
        refine retct rfl H219 rfl z_agg35 z_size35 (by repeat (first | exact Mh | apply Mt)) (q_len_c4b32b32 (by first | assumption | exact Note.linkF_prev _ hl1 | exact Note.linkF_hash _ _ _ _ _) (by first | assumption | exact Note.linkF_prev _ hl1 | exact Note.linkF_hash _ _ _ _ _)) rfl ?_
        refine ⟨_, [], rfl, ⟨?_, rfl⟩, H219.sep.sub (List.nil_sublist _)⟩
        first | (rw [Note.readReceipt_none (by first | exact Note.fields_none2 hfi | exact Note.fields_none1 (by assumption))]; rfl) | (rw [Note.readReceipt_bad (Note.fields_some (by assumption) hfi) (by rintro ⟨h1, h2, h3, _⟩; simp only [List.length_drop] at h1; omega)]; rfl) | (rw [Note.readReceipt_link hfs (by simp only [List.length_drop]; omega) hl1 hl2 (.inl (by assumption))]; rfl) | (rw [Note.readReceipt_link hfs (by simp only [List.length_drop]; omega) hl1 hl2 (.inr (by assumption))]; rfl) | (obtain ⟨e1, e2⟩ := Note.readReceipt_fine hfs (by simp only [List.length_drop]; omega) hl1 hl2 (by omega) (by assumption); rw [e1, ← e2]; rfl)
    · first
      | fail
      | skip
        clear H191; intro H220
        try simp only [decide_eq_true_eq, decide_eq_false_iff_not, Bool.not_eq_true', Bool.not_eq_false', Bool.and_eq_true, Bool.not_eq_true, Bool.not_eq_false] at hg192
        refine plain (y_move rfl rfl) rfl rfl rfl H220 ?_
        clear H220; intro a221 H221
        refine plain (y_not rfl rfl) rfl rfl rfl H221 ?_
        clear H221; intro a222 H222
        refine plain (y_pick_f rfl rfl rfl) rfl rfl rfl H222 ?_
        clear H222; intro a223 H223
        refine plain (y_move rfl rfl) rfl rfl rfl H223 ?_
        clear H223; intro a224 H224
        refine skip rfl rfl rfl H224 ?_
        clear H224; intro a225 H225
        refine skip rfl rfl rfl H225 ?_
        clear H225; intro a226 H226
        refine skip rfl rfl rfl H226 ?_
        clear H226; intro a227 H227
        refine plain (y_pick_t rfl rfl rfl) rfl rfl rfl H227 ?_
        clear H227; intro a228 H228
        refine plain (y_move rfl rfl) rfl rfl rfl H228 ?_
        clear H228; intro a229 H229
        refine skip rfl rfl rfl H229 ?_
        clear H229; intro a230 H230
        refine skip rfl rfl rfl H230 ?_
        clear H230; intro a231 H231
        refine skip rfl rfl rfl H231 ?_
        clear H231; intro a232 H232
        refine skip rfl rfl rfl H232 ?_
        clear H232; intro a233 H233
        refine skip rfl rfl rfl H233 ?_
        clear H233; intro a234 H234
        refine plain (y_pick_t rfl rfl rfl) rfl rfl rfl H234 ?_
        clear H234; intro a235 H235
        refine plain (y_move rfl rfl) rfl rfl rfl H235 ?_
        clear H235; intro a236 H236
        refine skip rfl rfl rfl H236 ?_
        clear H236; intro a237 H237
        refine skip rfl rfl rfl H237 ?_
        clear H237; intro a238 H238
        refine skip rfl rfl rfl H238 ?_
        clear H238; intro a239 H239
        refine skip rfl rfl rfl H239 ?_
        clear H239; intro a240 H240
        refine skip rfl rfl rfl H240 ?_
        clear H240; intro a241 H241
        refine plain (y_pick_t rfl rfl rfl) rfl rfl rfl H241 ?_
        clear H241; intro a242 H242
        refine fin ?_
        refine then_n ?_
        refine cnd_t H242 rfl ?_
        refine wp_seq ?_
        refine reg ?_
        refine plain (y_build rfl z_zeroN35 z_places35 rfl lay_n) rfl rfl rfl H242 ?_
        clear H242; intro a244 H244
        refine st_storeN rfl z_size35 rfl rfl (agg_cells _) (by repeat (first | exact Uh | apply Ut)) (q_one_c4b32b32 rfl rfl rfl rfl) (q_len_c4b32b32 (by first | assumption | exact Note.linkF_prev _ hl1 | exact Note.linkF_hash _ _ _ _ _) (by first | assumption | exact Note.linkF_prev _ hl1 | exact Note.linkF_hash _ _ _ _ _)) (q_len_c4b32b32 (by first | assumption | exact Note.linkF_prev _ hl1 | exact Note.linkF_hash _ _ _ _ _) (by first | assumption | exact Note.linkF_prev _ hl1 | exact Note.linkF_hash _ _ _ _ _)) (q_spl_c4b32b32_0_c4b32b32 (by first | assumption | exact Note.linkF_prev _ hl1 | exact Note.linkF_hash _ _ _ _ _) (by first | assumption | exact Note.linkF_prev _ hl1 | exact Note.linkF_hash _ _ _ _ _) (by first | assumption | exact Note.linkF_prev _ hl1 | exact Note.linkF_hash _ _ _ _ _) (by first | assumption | exact Note.linkF_prev _ hl1 | exact Note.linkF_hash _ _ _ _ _)) (by decide) rfl rfl H244 ?_
        clear H244; intro wx245 H245
        refine plain (y_assign rfl rfl) rfl rfl rfl H245 ?_
        clear H245; intro a246 H246
        refine fin ?_
        refine then_n ?_
        refine wp_ret ?_
        refine then_r ?_
        -- return 9
        refine retct rfl H246 rfl z_agg35 z_size35 (by repeat (first | exact Mh | apply Mt)) (q_len_c4b32b32 (by first | assumption | exact Note.linkF_prev _ hl1 | exact Note.linkF_hash _ _ _ _ _) (by first | assumption | exact Note.linkF_prev _ hl1 | exact Note.linkF_hash _ _ _ _ _)) rfl ?_
        refine ⟨_, [], rfl, ⟨?_, rfl⟩, H246.sep.sub (List.nil_sublist _)⟩
        first | (rw [Note.readReceipt_none (by first | exact Note.fields_none2 hfi | exact Note.fields_none1 (by assumption))]; rfl) | (rw [Note.readReceipt_bad (Note.fields_some (by assumption) hfi) (by rintro ⟨h1, h2, h3, _⟩; simp only [List.length_drop] at h1; omega)]; rfl) | (rw [Note.readReceipt_link hfs (by simp only [List.length_drop]; omega) hl1 hl2 (.inl (by assumption))]; rfl) | (rw [Note.readReceipt_link hfs (by simp only [List.length_drop]; omega) hl1 hl2 (.inr (by assumption))]; rfl) | (obtain ⟨e1, e2⟩ := Note.readReceipt_fine hfs (by simp only [List.length_drop]; omega) hl1 hl2 (by omega) (by assumption); rw [e1, ← e2]; rfl)

end Go.Proofs.YtnnhnnhdoipbaaaDoor.N_RefR

set_option linter.unusedVariables false
set_option linter.unusedSimpArgs false
namespace Go.Proofs.YtnnhnnhdoipbaaaDoor.N_RWBatch
open Go.Sx Go.RowKit Go.Proofs.YtnnhnnhdoipbaaaDoor.N_Block Go.Proofs.YtnnhnnhdoipbaaaDoor.N_Sum Go.Proofs.YtnnhnnhdoipbaaaDoor.N_Ref Go.Proofs.YtnnhnnhdoipbaaaDoor.N_RSum Go.Proofs.YtnnhnnhdoipbaaaDoor.N_Leaf Go.Proofs.YtnnhnnhdoipbaaaDoor.N_Num Go.Proofs.YtnnhnnhdoipbaaaDoor.N_Key Go.Proofs.YtnnhnnhdoipbaaaDoor.N_Ref Go.Proofs.YtnnhnnhdoipbaaaDoor.N_RSum Go.Proofs.YtnnhnnhdoipbaaaDoor.N_Tag Go.Proofs.YtnnhnnhdoipbaaaDoor.N_Read Go.Proofs.YtnnhnnhdoipbaaaDoor.N_Lay Go.Proofs.YtnnhnnhdoipbaaaDoor.N_Eq Go.Proofs.YtnnhnnhdoipbaaaDoor.N_Ref0

theorem z_field75_0 : fieldB Tryd.prog 75 0 = some 0 := by kernel_rfl
theorem z_agg4 : aggB Tryd.prog 4 = some false := by kernel_rfl
theorem q_ix_c2_0 {a0 a1 : Value} : (a0 :: a1 :: [])[0]? = some a0 := ix_0
theorem z_field75_1 : fieldB Tryd.prog 75 1 = some 1 := by kernel_rfl
theorem z_agg9 : aggB Tryd.prog 9 = some false := by kernel_rfl
theorem q_ix_c2_1 {a0 a1 : Value} : (a0 :: a1 :: [])[1]? = some a1 := (ix_c (o := 0) ix_0)
theorem z_field42_0 : fieldB Tryd.prog 42 0 = some 0 := by kernel_rfl
theorem z_agg3 : aggB Tryd.prog 3 = some false := by kernel_rfl
theorem q_ix_c4_0 {a0 a1 a2 a3 : Value} : (a0 :: a1 :: a2 :: a3 :: [])[0]? = some a0 := ix_0
theorem z_call45 : callB Tryd.prog 45 = true := by kernel_rfl
theorem z_field42_1 : fieldB Tryd.prog 42 1 = some 1 := by kernel_rfl
theorem q_ix_c4_1 {a0 a1 a2 a3 : Value} : (a0 :: a1 :: a2 :: a3 :: [])[1]? = some a1 := (ix_c (o := 0) ix_0)
theorem z_field42_2 : fieldB Tryd.prog 42 2 = some 2 := by kernel_rfl
theorem q_ix_c4_2 {a0 a1 a2 a3 : Value} : (a0 :: a1 :: a2 :: a3 :: [])[2]? = some a2 := (ix_c (o := 1) (ix_c (o := 0) ix_0))
theorem z_field42_3 : fieldB Tryd.prog 42 3 = some 3 := by kernel_rfl
theorem z_agg40 : aggB Tryd.prog 40 = some false := by kernel_rfl
theorem q_ix_c4_3 {a0 a1 a2 a3 : Value} : (a0 :: a1 :: a2 :: a3 :: [])[3]? = some a3 := (ix_c (o := 2) (ix_c (o := 1) (ix_c (o := 0) ix_0)))
theorem z_call39 : callB Tryd.prog 39 = true := by kernel_rfl
theorem z_size9 : sizeB Tryd.prog 9 = some 1 := by kernel_rfl
theorem z_zero9 : zeroL Tryd.prog 9 = some ([.string ⟨#[]⟩]) := by kernel_rfl
theorem z_size75 : sizeB Tryd.prog 75 = some 2 := by kernel_rfl
theorem z_agg75 : aggB Tryd.prog 75 = some true := by kernel_rfl
theorem z_call48 : callB Tryd.prog 48 = true := by kernel_rfl
theorem z_slice49 : sliceB Tryd.prog 49 = some (9, 1, 16) := by kernel_rfl
theorem z_notint49 : notIntB Tryd.prog 49 = true := by kernel_rfl
theorem z_call38 : callB Tryd.prog 38 = true := by kernel_rfl

set_option maxRecDepth 100000 in
set_option maxHeartbeats 1000000 in
theorem rpart (p : Note.Part) (hp : p.text.length ≤ 140737488351232) (w : World) : Calls Tryd.prog 48 #[.agg (Note.Part.cells p).toArray] w (Gives (.tuple #[str p.laid, .bool p.ok]) [] w) := by
  have lz32 : (List.replicate 32 (0 : UInt8)).length = 32 := List.length_replicate
  refine enterL (args := [.agg (Note.Part.cells p).toArray]) Tryd.func48 rfl rfl (l := []) (Sep.refl _) ?_
  intro a0 H0
  refine wp_seq ?_
  refine reg ?_
  refine st_box rfl rfl (agg_cells _) rfl rfl rfl H0 ?_
  clear H0; intro b1 a1 wx1 H1
  refine plain (y_assign rfl rfl) rfl rfl rfl H1 ?_
  clear H1; intro a2 H2
  refine plain (y_assign rfl rfl) rfl rfl rfl H2 ?_
  clear H2; intro a3 H3
  refine fin ?_
  refine then_n ?_
  refine wp_seq ?_
  refine wp_seq ?_
  refine reg ?_
  refine plain (y_fieldB rfl z_field75_0 rfl (by first | (simp only [Nat.zero_add, Nat.add_zero, Nat.reduceAdd]; rfl) | rfl)) rfl rfl rfl H3 ?_
  clear H3; intro a4 H4
  refine plain (y_loadB rfl z_agg4 rfl (by repeat (first | exact Mh | apply Mt)) q_ix_c2_0) rfl rfl rfl H4 ?_
  clear H4; intro a5 H5
  refine fin ?_
  refine then_n ?_
  refine cnd H5 rfl (fun hc6 => ?_) (fun hc6 => ?_) -- cond 1
  · skip
    try simp only [decide_eq_true_eq, decide_eq_false_iff_not, Bool.not_eq_true', Bool.not_eq_false', Bool.and_eq_true, Bool.not_eq_true, Bool.not_eq_false] at hc6
    refine wp_seq ?_
    refine qreg (by kernel_rfl) (by kernel_rfl) H5 ?_
    have F7 := H5.fr
    clear H5
    refine qplain (y_fieldB rfl z_field75_1 rfl (by first | (simp only [Nat.zero_add, Nat.add_zero, Nat.reduceAdd]; rfl) | rfl)) rfl rfl rfl F7 ?_
    clear F7; intro a8 H8
    refine qplain (y_loadB rfl z_agg9 rfl (by repeat (first | exact Mh | apply Mt)) q_ix_c2_1) rfl rfl rfl H8 ?_
    clear H8; intro a9 H9
    refine qplain (y_seql rfl rfl rfl) rfl rfl rfl H9 ?_
    clear H9; intro a10 H10
    refine qplain (y_assign rfl rfl) rfl rfl rfl H10 ?_
    clear H10; intro a11 H11
    refine qplain (y_assign rfl rfl) rfl rfl rfl H11 ?_
    clear H11; intro a12 H12
    refine qfin H12 ?_
    clear H12; intro wx13 H13
    refine then_n ?_
    refine wp_ret ?_
    refine then_r ?_
    -- return 1
    refine ret2 rfl H13 rfl rfl ?_
    refine ⟨_, [], rfl, ⟨?_, rfl⟩, H13.sep.sub (List.nil_sublist _)⟩
    obtain ⟨d, t⟩ := p
    have : d = true := by assumption
    subst this
    rfl
  · skip
    try simp only [decide_eq_true_eq, decide_eq_false_iff_not, Bool.not_eq_true', Bool.not_eq_false', Bool.and_eq_true, Bool.not_eq_true, Bool.not_eq_false] at hc6
    refine wp_skip ?_
    refine then_n ?_
    refine wp_seq ?_
    refine qreg (by kernel_rfl) (by kernel_rfl) H5 ?_
    have F14 := H5.fr
    clear H5
    refine qplain (y_fieldB rfl z_field75_1 rfl (by first | (simp only [Nat.zero_add, Nat.add_zero, Nat.reduceAdd]; rfl) | rfl)) rfl rfl rfl F14 ?_
    clear F14; intro a15 H15
    refine qplain (y_loadB rfl z_agg9 rfl (by repeat (first | exact Mh | apply Mt)) q_ix_c2_1) rfl rfl rfl H15 ?_
    clear H15; intro a16 H16
    refine qplain (y_sadd rfl rfl rfl (by simp only [List.length_cons, List.length_nil]; omega)) rfl rfl rfl H16 ?_
    clear H16; intro a17 H17
    refine qplain (y_fieldB rfl z_field75_1 rfl (by first | (simp only [Nat.zero_add, Nat.add_zero, Nat.reduceAdd]; rfl) | rfl)) rfl rfl rfl H17 ?_
    clear H17; intro a18 H18
    refine qplain (y_loadB rfl z_agg9 rfl (by repeat (first | exact Mh | apply Mt)) q_ix_c2_1) rfl rfl rfl H18 ?_
    clear H18; intro a19 H19
    refine qplain (y_slen rfl Tryd.underlying9 rfl) rfl rfl rfl H19 ?_
    clear H19; intro a20 H20
    refine qplain (y_leq rfl rfl rfl) rfl rfl rfl H20 ?_
    clear H20; intro a21 H21
    refine qplain (y_assign rfl rfl) rfl rfl rfl H21 ?_
    clear H21; intro a22 H22
    refine qplain (y_assign rfl rfl) rfl rfl rfl H22 ?_
    clear H22; intro a23 H23
    refine qfin H23 ?_
    clear H23; intro wx24 H24
    refine then_n ?_
    refine wp_ret ?_
    -- return 2
    refine ret2 rfl H24 rfl rfl ?_
    refine ⟨_, [], rfl, ⟨?_, rfl⟩, H24.sep.sub (List.nil_sublist _)⟩
    obtain ⟨d, t⟩ := p
    have : d = false := by assumption
    subst this
    show Value.tuple #[_, Value.bool (decide _)] = Value.tuple #[_, Value.bool (decide _)]
    congr 4
    simp
    omega
end Go.Proofs.YtnnhnnhdoipbaaaDoor.N_RWBatch
