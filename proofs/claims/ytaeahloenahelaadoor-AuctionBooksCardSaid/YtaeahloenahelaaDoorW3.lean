/- Part of a proof about given Go functions: contracts of functions, or plain laws. -/
import Derived.Test.YtaeahloenahelaaDoorS7
import Derived.Test.YtaeahloenahelaaDoorS5
import Derived.Test.YtaeahloenahelaaDoorS6
import Derived.Test.YtaeahloenahelaaDoorProg
import Derived.Test.YtaeahloenahelaaDoorW1
import Derived.Test.YtaeahloenahelaaDoorW2
import Derived.Test.YtaeahloenahelaaDoorS3
import Derived.Test.YtaeahloenahelaaDoorS8
import Derived.Test.YtaeahloenahelaaDoorS4
import Derived.Test.YtaeahloenahelaaDoorS1
import Derived.Test.YtaeahloenahelaaDoorS2
set_option linter.unusedVariables false
set_option linter.unusedSimpArgs false
namespace Go.Proofs.YtaeahloenahelaaDoor.A_Ahd
open Go.Sx Go.RowKit Go.Proofs.YtaeahloenahelaaDoor.A_Block Go.Proofs.YtaeahloenahelaaDoor.A_Sum Go.Proofs.YtaeahloenahelaaDoor.A_Ref Go.Proofs.YtaeahloenahelaaDoor.A_RSum Go.Proofs.YtaeahloenahelaaDoor.A_Leaf Go.Proofs.YtaeahloenahelaaDoor.A_Num Go.Proofs.YtaeahloenahelaaDoor.A_Key Go.Proofs.YtaeahloenahelaaDoor.A_Ref Go.Proofs.YtaeahloenahelaaDoor.A_RSum Go.Proofs.YtaeahloenahelaaDoor.A_Tag Go.Proofs.YtaeahloenahelaaDoor.A_Lay Go.Proofs.YtaeahloenahelaaDoor.A_Eq Go.Proofs.YtaeahloenahelaaDoor.A_Ref0 Go.Proofs.YtaeahloenahelaaDoor.A_Sign Go.Proofs.YtaeahloenahelaaDoor.A_RefB

theorem z_field30_2 : fieldB Tryd.prog 30 2 = some 2 := by kernel_rfl
theorem z_agg3 : aggB Tryd.prog 3 = some false := by kernel_rfl
theorem q_ix_c4b32_2 {a0 a1 a2 a3 : Value} {t4 : List UInt8} : (a0 :: a1 :: a2 :: a3 :: t4.map u8)[2]? = some a2 := (ix_c (o := 1) (ix_c (o := 0) ix_0))
theorem z_agg30 : aggB Tryd.prog 30 = some true := by kernel_rfl
theorem z_size30 : sizeB Tryd.prog 30 = some 36 := by kernel_rfl
theorem q_ld_c4b32_0_36 {a0 a1 a2 a3 : Value} {t4 : List UInt8} (h4 : t4.length = 32) : ((a0 :: a1 :: a2 :: a3 :: t4.map u8).drop 0).take 36 = a0 :: a1 :: a2 :: a3 :: t4.map u8 := (ld_a (len_c (n := 35) (len_c (n := 34) (len_c (n := 33) (len_c (n := 32) (len_e (k := 32) h4))))))
theorem q_len_c4b32 {a0 a1 a2 a3 : Value} {t4 : List UInt8} (h4 : t4.length = 32) : (a0 :: a1 :: a2 :: a3 :: t4.map u8).length = 36 := (len_c (n := 35) (len_c (n := 34) (len_c (n := 33) (len_c (n := 32) (len_e (k := 32) h4)))))
theorem z_call70 : callB Tryd.prog 70 = true := by kernel_rfl
theorem z_call72 : callB Tryd.prog 72 = true := by kernel_rfl
theorem z_call71 : callB Tryd.prog 71 = true := by kernel_rfl

set_option maxRecDepth 100000 in
set_option maxHeartbeats 1000000 in
theorem rahead (a b : Note.Bid) (wa : Note.Bid.Wf a) (wb : Note.Bid.Wf b) (w : World) : Calls Tryd.prog 49 #[.agg (Note.Bid.cells a).toArray, .agg (Note.Bid.cells b).toArray] w (Gives (.bool (Auction.ahead a b)) [] w) := by
  have hta := wa.tag
  have htb := wb.tag
  have hla := Note.wbid_len (b := a)
  have hlb := Note.wbid_len (b := b)
  have lz32 : (List.replicate 32 (0 : UInt8)).length = 32 := List.length_replicate
  have lz0 := wa.tag
  have lz1 := wb.tag
  refine enterL (args := [.agg (Note.Bid.cells a).toArray, .agg (Note.Bid.cells b).toArray]) Tryd.func49 rfl rfl (l := []) (Sep.refl _) ?_
  intro a0 H0
  refine wp_seq ?_
  refine reg ?_
  refine st_box rfl rfl (agg_cells _) rfl rfl rfl H0 ?_
  clear H0; intro b1 a1 wx1 H1
  refine st_box rfl rfl (agg_cells _) rfl rfl rfl H1 ?_
  clear H1; intro b2 a2 wx2 H2
  refine plain (y_assign rfl rfl) rfl rfl rfl H2 ?_
  clear H2; intro a3 H3
  refine fin ?_
  refine then_n ?_
  refine wp_seq ?_
  refine wp_seq ?_
  refine reg ?_
  refine plain (y_fieldB rfl z_field30_2 rfl (by first | (simp only [Nat.zero_add, Nat.add_zero, Nat.reduceAdd]; rfl) | rfl)) rfl rfl rfl H3 ?_
  clear H3; intro a4 H4
  refine plain (y_loadB rfl z_agg3 rfl (by repeat (first | exact Mh | apply Mt)) q_ix_c4b32_2) rfl rfl rfl H4 ?_
  clear H4; intro a5 H5
  refine plain (y_fieldB rfl z_field30_2 rfl (by first | (simp only [Nat.zero_add, Nat.add_zero, Nat.reduceAdd]; rfl) | rfl)) rfl rfl rfl H5 ?_
  clear H5; intro a6 H6
  refine plain (y_loadB rfl z_agg3 rfl (by repeat (first | exact Mh | apply Mt)) q_ix_c4b32_2) rfl rfl rfl H6 ?_
  clear H6; intro a7 H7
  refine plain (y_neq rfl rfl rfl) rfl rfl rfl H7 ?_
  clear H7; intro a8 H8
  refine fin ?_
  refine then_n ?_
  refine cnd H8 rfl (fun hc9 => ?_) (fun hc9 => ?_) -- cond 1
  · skip
    try simp only [decide_eq_true_eq, decide_eq_false_iff_not, Bool.not_eq_true', Bool.not_eq_false', Bool.and_eq_true, Bool.not_eq_true, Bool.not_eq_false] at hc9
    refine wp_seq ?_
    refine reg ?_
    refine plain (y_fieldB rfl z_field30_2 rfl (by first | (simp only [Nat.zero_add, Nat.add_zero, Nat.reduceAdd]; rfl) | rfl)) rfl rfl rfl H8 ?_
    clear H8; intro a10 H10
    refine plain (y_loadB rfl z_agg3 rfl (by repeat (first | exact Mh | apply Mt)) q_ix_c4b32_2) rfl rfl rfl H10 ?_
    clear H10; intro a11 H11
    refine plain (y_fieldB rfl z_field30_2 rfl (by first | (simp only [Nat.zero_add, Nat.add_zero, Nat.reduceAdd]; rfl) | rfl)) rfl rfl rfl H11 ?_
    clear H11; intro a12 H12
    refine plain (y_loadB rfl z_agg3 rfl (by repeat (first | exact Mh | apply Mt)) q_ix_c4b32_2) rfl rfl rfl H12 ?_
    clear H12; intro a13 H13
    refine plain (y_gtr rfl rfl rfl) rfl rfl rfl H13 ?_
    clear H13; intro a14 H14
    refine plain (y_assign rfl rfl) rfl rfl rfl H14 ?_
    clear H14; intro a15 H15
    refine fin ?_
    refine then_n ?_
    refine wp_ret ?_
    refine then_r ?_
    -- return 1
    refine ret1 rfl H15 rfl ?_
    refine ⟨_, [], rfl, ⟨?_, rfl⟩, H15.sep.sub (List.nil_sublist _)⟩
    clear H15
    first | exact congrArg Value.bool (Auction.lf0 (by assumption)) | exact congrArg Value.bool (Auction.lf1 (by omega) (by assumption)) | exact congrArg Value.bool (Auction.lf2 (by omega) (by assumption) (by assumption)) | exact congrArg Value.bool (Auction.lf3 (by omega) (by assumption) (by assumption))
  · skip
    try simp only [decide_eq_true_eq, decide_eq_false_iff_not, Bool.not_eq_true', Bool.not_eq_false', Bool.and_eq_true, Bool.not_eq_true, Bool.not_eq_false] at hc9
    refine wp_skip ?_
    refine then_n ?_
    refine wp_seq ?_
    refine reg ?_
    refine plain (y_loadAB rfl z_agg30 z_size30 rfl (by repeat (first | exact Mh | apply Mt)) (q_ld_c4b32_0_36 (by assumption)) (q_len_c4b32 (by assumption))) rfl rfl rfl H8 ?_
    clear H8; intro a16 H16
    refine st_callg rfl z_call70 rfl rfl rfl rfl H16 (rwbid a wa _) ?_
    clear H16; intro a17 wx17 H17
    refine plain (y_move rfl rfl) rfl rfl rfl H17 ?_
    clear H17; intro a18 H18
    refine plain (y_extract rfl rfl rfl) rfl rfl rfl H18 ?_
    clear H18; intro a19 H19
    refine plain (y_extract rfl rfl rfl) rfl rfl rfl H19 ?_
    clear H19; intro a20 H20
    refine plain (y_assign rfl rfl) rfl rfl rfl H20 ?_
    clear H20; intro a21 H21
    refine plain (y_assign rfl rfl) rfl rfl rfl H21 ?_
    clear H21; intro a22 H22
    refine fin ?_
    refine then_n ?_
    refine wp_seq ?_
    refine reg ?_
    refine plain (y_loadAB rfl z_agg30 z_size30 rfl (by repeat (first | exact Mh | apply Mt)) (q_ld_c4b32_0_36 (by assumption)) (q_len_c4b32 (by assumption))) rfl rfl rfl H22 ?_
    clear H22; intro a23 H23
    refine st_callg rfl z_call70 rfl rfl rfl rfl H23 (rwbid b wb _) ?_
    clear H23; intro a24 wx24 H24
    refine plain (y_move rfl rfl) rfl rfl rfl H24 ?_
    clear H24; intro a25 H25
    refine plain (y_extract rfl rfl rfl) rfl rfl rfl H25 ?_
    clear H25; intro a26 H26
    refine plain (y_extract rfl rfl rfl) rfl rfl rfl H26 ?_
    clear H26; intro a27 H27
    refine plain (y_assign rfl rfl) rfl rfl rfl H27 ?_
    clear H27; intro a28 H28
    refine plain (y_assign rfl rfl) rfl rfl rfl H28 ?_
    clear H28; intro a29 H29
    refine fin ?_
    refine then_n ?_
    refine wp_seq ?_
    refine reg ?_
    refine plain (y_move rfl rfl) rfl rfl rfl H29 ?_
    clear H29; intro a30 H30
    refine st_callg rfl z_call72 rfl rfl rfl rfl H30 (rsum (Note.writeBid a).1 (by omega) _) ?_
    clear H30; intro a31 wx31 H31
    refine st_callg rfl z_call71 rfl rfl rfl rfl H31 (rbytes _ (Sha.sum_length _) _) ?_
    clear H31; intro a32 wx32 H32
    refine plain (y_move rfl rfl) rfl rfl rfl H32 ?_
    clear H32; intro a33 H33
    refine st_callg rfl z_call72 rfl rfl rfl rfl H33 (rsum (Note.writeBid b).1 (by omega) _) ?_
    clear H33; intro a34 wx34 H34
    refine st_callg rfl z_call71 rfl rfl rfl rfl H34 (rbytes _ (Sha.sum_length _) _) ?_
    clear H34; intro a35 wx35 H35
    refine plain (y_assign rfl rfl) rfl rfl rfl H35 ?_
    clear H35; intro a36 H36
    refine plain (y_assign rfl rfl) rfl rfl rfl H36 ?_
    clear H36; intro a37 H37
    refine fin ?_
    refine then_n ?_
    refine wp_seq ?_
    refine reg ?_
    refine plain (y_move rfl rfl) rfl rfl rfl H37 ?_
    clear H37; intro a38 H38
    refine plain (y_move rfl rfl) rfl rfl rfl H38 ?_
    clear H38; intro a39 H39
    refine plain (y_slss rfl rfl rfl) rfl rfl rfl H39 ?_
    clear H39; intro a40 H40
    refine plain (y_move rfl rfl) rfl rfl rfl H40 ?_
    clear H40; intro a41 H41
    refine Sx.part (d := 40) H41 rfl (fun hg42 => ?_) (fun hg42 => ?_)
    · first
      | fail
      | skip
        clear H41; intro H43
        try simp only [decide_eq_true_eq, decide_eq_false_iff_not, Bool.not_eq_true', Bool.not_eq_false', Bool.and_eq_true, Bool.not_eq_true, Bool.not_eq_false] at hg42
        refine skip rfl rfl rfl H43 ?_
        clear H43; intro a44 H44
        refine skip rfl rfl rfl H44 ?_
        clear H44; intro a45 H45
        refine skip rfl rfl rfl H45 ?_
        clear H45; intro a46 H46
        refine skip rfl rfl rfl H46 ?_
        clear H46; intro a47 H47
        refine skip rfl rfl rfl H47 ?_
        clear H47; intro a48 H48
        refine skip rfl rfl rfl H48 ?_
        clear H48; intro a49 H49
        refine skip rfl rfl rfl H49 ?_
        clear H49; intro a50 H50
        refine skip rfl rfl rfl H50 ?_
        clear H50; intro a51 H51
        refine plain (y_pick_t rfl rfl rfl) rfl rfl rfl H51 ?_
        clear H51; intro a52 H52
        refine plain (y_assign rfl rfl) rfl rfl rfl H52 ?_
        clear H52; intro a53 H53
        refine fin ?_
        refine then_n ?_
        refine wp_ret ?_
        -- return 2
        refine ret1 rfl H53 rfl ?_
        refine ⟨_, [], rfl, ⟨?_, rfl⟩, H53.sep.sub (List.nil_sublist _)⟩
        clear H53
        first | exact congrArg Value.bool (Auction.lf0 (by assumption)) | exact congrArg Value.bool (Auction.lf1 (by omega) (by assumption)) | exact congrArg Value.bool (Auction.lf2 (by omega) (by assumption) (by assumption)) | exact congrArg Value.bool (Auction.lf3 (by omega) (by assumption) (by assumption))
    · first
      | fail
      | skip
        clear H41; intro H54
        try simp only [decide_eq_true_eq, decide_eq_false_iff_not, Bool.not_eq_true', Bool.not_eq_false', Bool.and_eq_true, Bool.not_eq_true, Bool.not_eq_false] at hg42
        refine plain (y_move rfl rfl) rfl rfl rfl H54 ?_
        clear H54; intro a55 H55
        refine plain (y_move rfl rfl) rfl rfl rfl H55 ?_
        clear H55; intro a56 H56
        refine plain (y_seql rfl rfl rfl) rfl rfl rfl H56 ?_
        clear H56; intro a57 H57
        refine plain (y_move rfl rfl) rfl rfl rfl H57 ?_
        clear H57; intro a58 H58
        refine Sx.part (d := 44) H58 rfl (fun hg59 => ?_) (fun hg59 => ?_)
        · first
          | fail
          | skip
            clear H58; intro H60
            try simp only [decide_eq_true_eq, decide_eq_false_iff_not, Bool.not_eq_true', Bool.not_eq_false', Bool.and_eq_true, Bool.not_eq_true, Bool.not_eq_false] at hg59
            refine plain (y_move rfl rfl) rfl rfl rfl H60 ?_
            clear H60; intro a61 H61
            refine plain (y_move rfl rfl) rfl rfl rfl H61 ?_
            clear H61; intro a62 H62
            refine plain (y_slss rfl rfl rfl) rfl rfl rfl H62 ?_
            clear H62; intro a63 H63
            refine plain (y_pick_t rfl rfl rfl) rfl rfl rfl H63 ?_
            clear H63; intro a64 H64
            refine plain (y_pick_f rfl rfl rfl) rfl rfl rfl H64 ?_
            clear H64; intro a65 H65
            refine plain (y_assign rfl rfl) rfl rfl rfl H65 ?_
            clear H65; intro a66 H66
            refine fin ?_
            refine then_n ?_
            refine wp_ret ?_
            -- return 3
            refine ret1 rfl H66 rfl ?_
            refine ⟨_, [], rfl, ⟨?_, rfl⟩, H66.sep.sub (List.nil_sublist _)⟩
            clear H66
            first | exact congrArg Value.bool (Auction.lf0 (by assumption)) | exact congrArg Value.bool (Auction.lf1 (by omega) (by assumption)) | exact congrArg Value.bool (Auction.lf2 (by omega) (by assumption) (by assumption)) | exact congrArg Value.bool (Auction.lf3 (by omega) (by assumption) (by assumption))
        · first
          | fail
          | skip
            clear H58; intro H67
            try simp only [decide_eq_true_eq, decide_eq_false_iff_not, Bool.not_eq_true', Bool.not_eq_false', Bool.and_eq_true, Bool.not_eq_true, Bool.not_eq_false] at hg59
            refine skip rfl rfl rfl H67 ?_
            clear H67; intro a68 H68
            refine skip rfl rfl rfl H68 ?_
            clear H68; intro a69 H69
            refine skip rfl rfl rfl H69 ?_
            clear H69; intro a70 H70
            refine plain (y_pick_f rfl rfl rfl) rfl rfl rfl H70 ?_
            clear H70; intro a71 H71
            refine plain (y_pick_f rfl rfl rfl) rfl rfl rfl H71 ?_
            clear H71; intro a72 H72
            refine plain (y_assign rfl rfl) rfl rfl rfl H72 ?_
            clear H72; intro a73 H73
            refine fin ?_
            refine then_n ?_
            refine wp_ret ?_
            -- return 4
            refine ret1 rfl H73 rfl ?_
            refine ⟨_, [], rfl, ⟨?_, rfl⟩, H73.sep.sub (List.nil_sublist _)⟩
            clear H73
            first | exact congrArg Value.bool (Auction.lf0 (by assumption)) | exact congrArg Value.bool (Auction.lf1 (by omega) (by assumption)) | exact congrArg Value.bool (Auction.lf2 (by omega) (by assumption) (by assumption)) | exact congrArg Value.bool (Auction.lf3 (by omega) (by assumption) (by assumption))

end Go.Proofs.YtaeahloenahelaaDoor.A_Ahd

set_option linter.unusedVariables false
set_option linter.unusedSimpArgs false
namespace Go.Proofs.YtaeahloenahelaaDoor.A_RWin
open Go.Sx Go.RowKit Go.Proofs.YtaeahloenahelaaDoor.A_Block Go.Proofs.YtaeahloenahelaaDoor.A_Sum Go.Proofs.YtaeahloenahelaaDoor.A_Ref Go.Proofs.YtaeahloenahelaaDoor.A_RSum Go.Proofs.YtaeahloenahelaaDoor.A_Leaf Go.Proofs.YtaeahloenahelaaDoor.A_Num Go.Proofs.YtaeahloenahelaaDoor.A_Key Go.Proofs.YtaeahloenahelaaDoor.A_Ref Go.Proofs.YtaeahloenahelaaDoor.A_RSum Go.Proofs.YtaeahloenahelaaDoor.A_Tag Go.Proofs.YtaeahloenahelaaDoor.A_Lay Go.Proofs.YtaeahloenahelaaDoor.A_Eq Go.Proofs.YtaeahloenahelaaDoor.A_Ref0 Go.Proofs.YtaeahloenahelaaDoor.A_Sign Go.Proofs.YtaeahloenahelaaDoor.A_RefB Go.Proofs.YtaeahloenahelaaDoor.A_RCnt Go.Proofs.YtaeahloenahelaaDoor.A_Ahd

theorem z_zeroN32 : zeroL Tryd.prog 32 = some ((.int .i64 0 :: (.int .i64 0 :: (.int .i64 0 :: (.int .i64 0 :: ((List.replicate 32 (0 : UInt8)).map u8 ++ (.int .i64 0 :: []))))))) := by kernel_rfl
theorem z_call16 : callB Tryd.prog 16 = true := by kernel_rfl
theorem z_places32 : placesB Tryd.prog 32 = some [(0, 36), (36, 1)] := by kernel_rfl
theorem z_size32 : sizeB Tryd.prog 32 = some 37 := by kernel_rfl
theorem q_one_c4b32c1 {a0 a1 a2 a3 a5 : Value} {t4 : List UInt8} (o0 : a0.oneCell' = true) (o1 : a1.oneCell' = true) (o2 : a2.oneCell' = true) (o3 : a3.oneCell' = true) (o5 : a5.oneCell' = true) : (a0 :: a1 :: a2 :: a3 :: (t4.map u8 ++ (a5 :: []))).all (·.oneCell') = true := (one_c o0 (one_c o1 (one_c o2 (one_c o3 (one_b (one_c o5 one_n))))))
theorem q_len_c4b32c1 {a0 a1 a2 a3 a5 : Value} {t4 : List UInt8} (h4 : t4.length = 32) : (a0 :: a1 :: a2 :: a3 :: (t4.map u8 ++ (a5 :: []))).length = 37 := (len_c (n := 36) (len_c (n := 35) (len_c (n := 34) (len_c (n := 33) (len_b (k := 32) (n := 1) h4 (len_c (n := 0) len_n))))))
theorem q_spl_c4b32c1_0_c4b32c1 {a0 a1 a2 a3 a5 : Value} {t4 : List UInt8} {b0 b1 b2 b3 b5 : Value} {s4 : List UInt8} (h4 : t4.length = 32) (g4 : s4.length = 32) : spl (a0 :: a1 :: a2 :: a3 :: (t4.map u8 ++ (a5 :: []))) 0 (b0 :: b1 :: b2 :: b3 :: (s4.map u8 ++ (b5 :: []))) = b0 :: b1 :: b2 :: b3 :: (s4.map u8 ++ (b5 :: [])) := (spl_a (z := 37) (len_c (n := 36) (len_c (n := 35) (len_c (n := 34) (len_c (n := 33) (len_b (k := 32) (n := 1) h4 (len_c (n := 0) len_n)))))) (len_c (n := 36) (len_c (n := 35) (len_c (n := 34) (len_c (n := 33) (len_b (k := 32) (n := 1) g4 (len_c (n := 0) len_n)))))))
theorem z_agg32 : aggB Tryd.prog 32 = some true := by kernel_rfl
theorem z_size30 : sizeB Tryd.prog 30 = some 36 := by kernel_rfl
theorem z_agg30 : aggB Tryd.prog 30 = some true := by kernel_rfl
theorem z_call49 : callB Tryd.prog 49 = true := by kernel_rfl
theorem z_field30_2 : fieldB Tryd.prog 30 2 = some 2 := by kernel_rfl
theorem z_agg3 : aggB Tryd.prog 3 = some false := by kernel_rfl
theorem q_len_c4b32 {a0 a1 a2 a3 : Value} {t4 : List UInt8} (h4 : t4.length = 32) : (a0 :: a1 :: a2 :: a3 :: t4.map u8).length = 36 := (len_c (n := 35) (len_c (n := 34) (len_c (n := 33) (len_c (n := 32) (len_e (k := 32) h4)))))
theorem q_spl_c4b32c1_0_c4b32 {a0 a1 a2 a3 a5 : Value} {t4 : List UInt8} {b0 b1 b2 b3 : Value} {s4 : List UInt8} (h4 : t4.length = 32) (g4 : s4.length = 32) : spl (a0 :: a1 :: a2 :: a3 :: (t4.map u8 ++ (a5 :: []))) 0 (b0 :: b1 :: b2 :: b3 :: s4.map u8) = b0 :: b1 :: b2 :: b3 :: (s4.map u8 ++ (a5 :: [])) := (spl_m (z := 36) (len_c (n := 35) (len_c (n := 34) (len_c (n := 33) (len_c (n := 32) (len_e (k := 32) g4))))) (dr_c (o := 35) (dr_c (o := 34) (dr_c (o := 33) (dr_c (o := 32) (dr_b (k := 32) (o := 0) h4 rfl dr_0))))) (app_c (app_c (app_c (app_c app_e)))))
theorem q_spl_c4b32c1_36_c1 {a0 a1 a2 a3 a5 : Value} {t4 : List UInt8} {b0 : Value} (h4 : t4.length = 32) : spl (a0 :: a1 :: a2 :: a3 :: (t4.map u8 ++ (a5 :: []))) 36 (b0 :: []) = a0 :: a1 :: a2 :: a3 :: (t4.map u8 ++ (b0 :: [])) := (spl_c (o := 35) (spl_c (o := 34) (spl_c (o := 33) (spl_c (o := 32) (spl_b (k := 32) (o := 0) h4 rfl spl_0)))))

set_option maxRecDepth 100000 in
set_option maxHeartbeats 2000000 in
theorem rwin (l : List Note.Bid) (fs : List Int) (r fl : Int) (A B : Option Addr) (m n c e : Nat) (hm : m = l.length) (hn : n = fs.length) (hl : l.length ≤ 1000) (hfl : fs.length ≤ 9223372036854775807) {w : World} (hw : ∀ x ∈ l, Note.Bid.Wf x) (hA : Rd w A (Auction.bdc l)) (hB : Rd w B (fs.map i64))  : Calls Tryd.prog 14 #[.slice A m c, .slice B n e, .int .i64 r, .int .i64 fl] w (Gives (.tuple #[.agg (Auction.Win.cells (Auction.win l fs r fl).1).toArray, .bool (Auction.win l fs r fl).2]) [] w) := by
  subst hm
  subst hn
  have hcl := Auction.counts_len fs r fl l
  have hcw := Auction.counts_wf hw fs r fl
  have hZl : Note.Z.length = 32 := Note.Z_len
  have lz32 : (List.replicate 32 (0 : UInt8)).length = 32 := List.length_replicate
  refine enterL (args := [.slice A l.length c, .slice B fs.length e, .int .i64 r, .int .i64 fl]) Tryd.func14 rfl rfl (l := []) (Sep.refl _) ?_
  intro a0 H0
  refine wp_seq ?_
  refine reg ?_
  refine st_alloc rfl z_zeroN32 rfl rfl rfl H0 ?_
  clear H0; intro b1 a1 wx1 H1
  refine plain (y_assign rfl rfl) rfl rfl rfl H1 ?_
  clear H1; intro a2 H2
  refine fin ?_
  refine then_n ?_
  refine wp_seq ?_
  refine reg ?_
  refine plain (y_move rfl rfl) rfl rfl rfl H2 ?_
  clear H2; intro a3 H3
  refine plain (y_move rfl rfl) rfl rfl rfl H3 ?_
  clear H3; intro a4 H4
  refine plain (y_move rfl rfl) rfl rfl rfl H4 ?_
  clear H4; intro a5 H5
  refine plain (y_move rfl rfl) rfl rfl rfl H5 ?_
  clear H5; intro a6 H6
  refine st_call rfl z_call16 rfl rfl rfl rfl H6 (rcounts l fs r fl A B _ _ c e rfl rfl hl hfl hw (Rd.frm hA H6.sep.frm (by simp)) (Rd.frm hB H6.sep.frm (by simp))) ?_
  clear H6; intro v7 l7 a7 wx7 hf7 H7
  obtain rfl := hf7
  simp only [List.cons_append, List.nil_append] at H7
  obtain ⟨ArC, crC, hvrC, hRrC, hmrC⟩ := row_shape (v := v7) H7.sep (by repeat (first | exact Mh | apply Mt))
  subst hvrC
  refine plain (y_assign rfl rfl) rfl rfl rfl H7 ?_
  clear H7; intro a8 H8
  refine fin ?_
  refine then_n ?_
  refine wp_seq ?_
  refine wp_seq ?_
  refine reg ?_
  refine plain (y_move rfl rfl) rfl rfl rfl H8 ?_
  clear H8; intro a9 H9
  refine plain (y_len rfl Tryd.underlying22 rfl) rfl rfl rfl H9 ?_
  clear H9; intro a10 H10
  refine plain (y_eql rfl rfl rfl) rfl rfl rfl H10 ?_
  clear H10; intro a11 H11
  refine fin ?_
  refine then_n ?_
  refine cnd H11 rfl (fun hc12 => ?_) (fun hc12 => ?_) -- cond 1
  · skip
    try simp only [decide_eq_true_eq, decide_eq_false_iff_not, Bool.not_eq_true', Bool.not_eq_false', Bool.and_eq_true, Bool.not_eq_true, Bool.not_eq_false] at hc12
    rw [Auction.win, Auction.win_none (by omega)]
    refine wp_seq ?_
    refine reg ?_
    refine plain (y_build rfl z_zeroN32 z_places32 rfl lay_n) rfl rfl rfl H11 ?_
    clear H11; intro a13 H13
    refine st_storeN rfl z_size32 rfl rfl (agg_cells _) (by repeat (first | exact Uh | apply Ut)) (q_one_c4b32c1 rfl rfl rfl rfl rfl) (q_len_c4b32c1 (by assumption)) (q_len_c4b32c1 (by assumption)) (q_spl_c4b32c1_0_c4b32c1 (by assumption) (by assumption)) (by decide) rfl rfl H13 ?_
    clear H13; intro wx14 H14
    refine plain (y_assign rfl rfl) rfl rfl rfl H14 ?_
    clear H14; intro a15 H15
    refine fin ?_
    refine then_n ?_
    refine wp_ret ?_
    refine then_r ?_
    -- return 1
    refine retct rfl H15 rfl z_agg32 z_size32 (by repeat (first | exact Mh | apply Mt)) (q_len_c4b32c1 (by assumption)) rfl ?_
    exact ⟨_, [], rfl, ⟨rfl, rfl⟩, H15.sep.sub (List.nil_sublist _)⟩
  · skip
    try simp only [decide_eq_true_eq, decide_eq_false_iff_not, Bool.not_eq_true', Bool.not_eq_false', Bool.and_eq_true, Bool.not_eq_true, Bool.not_eq_false] at hc12
    rw [Auction.win, Auction.win_some (by omega)]
    have hbl := Auction.best_lt (Auction.counts l fs r fl) _ (show 0 < (Auction.counts l fs r fl).length by omega)
    refine wp_skip ?_
    refine then_n ?_
    refine wp_seq ?_
    refine reg ?_
    refine plain (y_assign rfl rfl) rfl rfl rfl H11 ?_
    clear H11; intro a16 H16
    refine fin ?_
    refine then_n ?_
    refine wp_seq ?_
    refine wp_seq ?_
    refine reg ?_
    refine plain (y_assign rfl rfl) rfl rfl rfl H16 ?_
    clear H16; intro a17 H17
    refine fin ?_
    refine then_n ?_
    refine wp_block ?_
    refine loop (ι := Nat) (fun j => [(3, .int .i64 fl), (8, .pointer (some ⟨b1, 0, none⟩)), (9, .bool false), (10, .slice ArC (Auction.counts l fs r fl).length crC), (11, .int .i64 ((Auction.best (Auction.counts l fs r fl) j : Nat) : Int)), (12, .int .i64 (j : Int))]) (fun j => [It.row 30 36 (.slice ArC (Auction.counts l fs r fl).length crC) (Auction.counts l fs r fl).length (Auction.bdc (Auction.counts l fs r fl)), It.blk b1 32 (Auction.Win.cells Auction.Win.zero)]) (fun j => 1 ≤ j ∧ j ≤ (Auction.counts l fs r fl).length) (fun j => (Auction.counts l fs r fl).length - j) (1) (by omega) (H17.weak ⟨rfl, rfl, rfl, rfl, rfl, rfl, trivial⟩ rfl) ?_
    clear H17; intro j a18 wx18 hok18 H18
    have hok := hok18
    refine wp_seq ?_
    refine wp_seq ?_
    refine reg ?_
    refine plain (y_move rfl rfl) rfl rfl rfl H18 ?_
    clear H18; intro a19 H19
    refine plain (y_move rfl rfl) rfl rfl rfl H19 ?_
    clear H19; intro a20 H20
    refine plain (y_len rfl Tryd.underlying22 rfl) rfl rfl rfl H20 ?_
    clear H20; intro a21 H21
    refine plain (y_lss rfl rfl rfl) rfl rfl rfl H21 ?_
    clear H21; intro a22 H22
    refine fin ?_
    refine then_n ?_
    refine cnd H22 rfl (fun hc23 => ?_) (fun hc23 => ?_) -- cond 2
    · skip
      try simp only [decide_eq_true_eq, decide_eq_false_iff_not, Bool.not_eq_true', Bool.not_eq_false', Bool.and_eq_true, Bool.not_eq_true, Bool.not_eq_false] at hc23
      refine wp_skip ?_
      refine then_n ?_
      refine wp_seq ?_
      refine wp_block ?_
      refine wp_seq ?_
      have hjl : j < (Auction.counts l fs r fl).length := by omega
      have hbj : Auction.best (Auction.counts l fs r fl) j < (Auction.counts l fs r fl).length := by (have := Auction.best_lt (Auction.counts l fs r fl) j (by omega); omega)
      have hwj := Auction.atD hcw hjl
      have hwb := Auction.atD hcw hbj
      refine qreg (by kernel_rfl) (by kernel_rfl) H22 ?_
      have F24 := H22.fr
      clear H22
      refine qplain (y_move rfl rfl) rfl rfl rfl F24 ?_
      clear F24; intro a25 H25
      refine qplain (y_move rfl rfl) rfl rfl rfl H25 ?_
      clear H25; intro a26 H26
      refine qplain (y_ixR rfl Tryd.underlying22 z_size30 rfl rfl (by omega) (by omega) (rd_row (by repeat (first | exact Mh | apply Mt))) (by rw [Auction.bdc_len hcw]; omega)) rfl rfl rfl H26 ?_
      clear H26; intro a27 H27
      refine qplain (y_loadAS rfl z_agg30 z_size30 rfl (rd_row (by repeat (first | exact Mh | apply Mt))) (show _ = Note.Bid.cells ((Auction.counts l fs r fl).getD j Note.Bid.zero) from Auction.bdc_take hcw _ hjl) (Auction.bid_len hwj.tag) (by decide)) rfl rfl rfl H27 ?_
      clear H27; intro a28 H28
      refine qplain (y_move rfl rfl) rfl rfl rfl H28 ?_
      clear H28; intro a29 H29
      refine qplain (y_move rfl rfl) rfl rfl rfl H29 ?_
      clear H29; intro a30 H30
      refine qplain (y_ixR rfl Tryd.underlying22 z_size30 rfl rfl (by omega) (by omega) (rd_row (by repeat (first | exact Mh | apply Mt))) (by rw [Auction.bdc_len hcw]; omega)) rfl rfl rfl H30 ?_
      clear H30; intro a31 H31
      refine qplain (y_loadAS rfl z_agg30 z_size30 rfl (rd_row (by repeat (first | exact Mh | apply Mt))) (show _ = Note.Bid.cells ((Auction.counts l fs r fl).getD (Auction.best (Auction.counts l fs r fl) j) Note.Bid.zero) from Auction.bdc_take hcw _ hbj) (Auction.bid_len hwb.tag) (by decide)) rfl rfl rfl H31 ?_
      clear H31; intro a32 H32
      refine qcallg rfl z_call49 rfl rfl rfl rfl H32 (fun w hs => (rahead ((Auction.counts l fs r fl).getD j Note.Bid.zero) ((Auction.counts l fs r fl).getD (Auction.best (Auction.counts l fs r fl) j) Note.Bid.zero) hwj hwb _)) ?_
      clear H32; intro a33 H33
      refine qfin H33 ?_
      clear H33; intro wx34 H34
      refine then_n ?_
      refine cnd H34 rfl (fun hc35 => ?_) (fun hc35 => ?_) -- cond 3
      · skip
        try simp only [decide_eq_true_eq, decide_eq_false_iff_not, Bool.not_eq_true', Bool.not_eq_false', Bool.and_eq_true, Bool.not_eq_true, Bool.not_eq_false] at hc35
        refine reg ?_
        refine plain (y_move rfl rfl) rfl rfl rfl H34 ?_
        clear H34; intro a36 H36
        refine plain (y_assign rfl rfl) rfl rfl rfl H36 ?_
        clear H36; intro a37 H37
        refine fin ?_
        refine inb_n ?_
        refine then_n ?_
        refine reg ?_
        refine plain (y_move rfl rfl) rfl rfl rfl H37 ?_
        clear H37; intro a38 H38
        refine plain (y_add rfl rfl rfl (by first | exact w64 (by omega) (by omega) | rfl)) rfl rfl rfl H38 ?_
        clear H38; intro a39 H39
        refine plain (y_assign rfl rfl) rfl rfl rfl H39 ?_
        clear H39; intro a40 H40
        refine fin ?_
        refine then_n ?_
        first | (refine ⟨j + 1, by omega, by omega, H40.weak ⟨rfl, rfl, rfl, rfl, fi rfl (by rw [Auction.best_yes (by omega) (by assumption)]), fi rfl (by omega), trivial⟩ rfl⟩) | (refine ⟨j + 1, by omega, by omega, H40.weak ⟨rfl, rfl, rfl, rfl, fi rfl (by rw [Auction.best_no (by omega) (by simp_all)]), fi rfl (by omega), trivial⟩ rfl⟩)
      · skip
        try simp only [decide_eq_true_eq, decide_eq_false_iff_not, Bool.not_eq_true', Bool.not_eq_false', Bool.and_eq_true, Bool.not_eq_true, Bool.not_eq_false] at hc35
        refine wp_skip ?_
        refine inb_n ?_
        refine then_n ?_
        refine reg ?_
        refine plain (y_move rfl rfl) rfl rfl rfl H34 ?_
        clear H34; intro a41 H41
        refine plain (y_add rfl rfl rfl (by first | exact w64 (by omega) (by omega) | rfl)) rfl rfl rfl H41 ?_
        clear H41; intro a42 H42
        refine plain (y_assign rfl rfl) rfl rfl rfl H42 ?_
        clear H42; intro a43 H43
        refine fin ?_
        refine then_n ?_
        first | (refine ⟨j + 1, by omega, by omega, H43.weak ⟨rfl, rfl, rfl, rfl, fi rfl (by rw [Auction.best_yes (by omega) (by assumption)]), fi rfl (by omega), trivial⟩ rfl⟩) | (refine ⟨j + 1, by omega, by omega, H43.weak ⟨rfl, rfl, rfl, rfl, fi rfl (by rw [Auction.best_no (by omega) (by simp_all)]), fi rfl (by omega), trivial⟩ rfl⟩)
    · skip
      try simp only [decide_eq_true_eq, decide_eq_false_iff_not, Bool.not_eq_true', Bool.not_eq_false', Bool.and_eq_true, Bool.not_eq_true, Bool.not_eq_false] at hc23
      refine wp_exit ?_
      refine then_x ?_
      refine then_x ?_
      refine inb_hit ?_
      refine then_n ?_
      refine wp_seq ?_
      refine reg ?_
      refine plain (y_move rfl rfl) rfl rfl rfl H22 ?_
      clear H22; intro a44 H44
      refine plain (y_assign rfl rfl) rfl rfl rfl H44 ?_
      clear H44; intro a45 H45
      refine fin ?_
      refine then_n ?_
      refine wp_seq ?_
      refine wp_seq ?_
      refine reg ?_
      refine plain (y_assign rfl rfl) rfl rfl rfl H45 ?_
      clear H45; intro a46 H46
      refine fin ?_
      refine then_n ?_
      refine wp_block ?_
      obtain rfl : (Auction.counts l fs r fl).length = j := by omega
      refine loop (ι := Nat) (fun i => [(8, .pointer (some ⟨b1, 0, none⟩)), (9, .bool false), (10, .slice ArC (Auction.counts l fs r fl).length crC), (11, .int .i64 (((Auction.best (Auction.counts l fs r fl) (Auction.counts l fs r fl).length) : Nat) : Int)), (13, .int .i64 (Auction.price (Auction.counts l fs r fl) (Auction.best (Auction.counts l fs r fl) (Auction.counts l fs r fl).length) fl i)), (14, .int .i64 (i : Int))]) (fun i => [It.row 30 36 (.slice ArC (Auction.counts l fs r fl).length crC) (Auction.counts l fs r fl).length (Auction.bdc (Auction.counts l fs r fl)), It.blk b1 32 (Auction.Win.cells Auction.Win.zero)]) (fun i => i ≤ (Auction.counts l fs r fl).length) (fun i => (Auction.counts l fs r fl).length - i) (0) (Nat.zero_le _) (H46.weak ⟨rfl, rfl, rfl, rfl, rfl, rfl, trivial⟩ rfl) ?_
      clear H46; intro i a47 wx47 hok47 H47
      have hok := hok47
      refine wp_seq ?_
      refine wp_seq ?_
      refine reg ?_
      refine plain (y_move rfl rfl) rfl rfl rfl H47 ?_
      clear H47; intro a48 H48
      refine plain (y_move rfl rfl) rfl rfl rfl H48 ?_
      clear H48; intro a49 H49
      refine plain (y_len rfl Tryd.underlying22 rfl) rfl rfl rfl H49 ?_
      clear H49; intro a50 H50
      refine plain (y_lss rfl rfl rfl) rfl rfl rfl H50 ?_
      clear H50; intro a51 H51
      refine fin ?_
      refine then_n ?_
      refine cnd H51 rfl (fun hc52 => ?_) (fun hc52 => ?_) -- cond 4
      · skip
        try simp only [decide_eq_true_eq, decide_eq_false_iff_not, Bool.not_eq_true', Bool.not_eq_false', Bool.and_eq_true, Bool.not_eq_true, Bool.not_eq_false] at hc52
        refine wp_skip ?_
        refine then_n ?_
        refine wp_seq ?_
        refine wp_block ?_
        refine wp_seq ?_
        have hil : i < (Auction.counts l fs r fl).length := by omega
        refine reg ?_
        refine plain (y_move rfl rfl) rfl rfl rfl H51 ?_
        clear H51; intro a53 H53
        refine plain (y_move rfl rfl) rfl rfl rfl H53 ?_
        clear H53; intro a54 H54
        refine plain (y_neq rfl rfl rfl) rfl rfl rfl H54 ?_
        clear H54; intro a55 H55
        refine plain (y_move rfl rfl) rfl rfl rfl H55 ?_
        clear H55; intro a56 H56
        refine Sx.part (d := 50) H56 rfl (fun hg57 => ?_) (fun hg57 => ?_)
        · first
          | fail
          | skip
            clear H56; intro H58
            try simp only [decide_eq_true_eq, decide_eq_false_iff_not, Bool.not_eq_true', Bool.not_eq_false', Bool.and_eq_true, Bool.not_eq_true, Bool.not_eq_false] at hg57
            refine plain (y_move rfl rfl) rfl rfl rfl H58 ?_
            clear H58; intro a59 H59
            refine plain (y_move rfl rfl) rfl rfl rfl H59 ?_
            clear H59; intro a60 H60
            refine plain (y_ixR rfl Tryd.underlying22 z_size30 rfl rfl (by omega) (by omega) (rd_row (by repeat (first | exact Mh | apply Mt))) (by rw [Auction.bdc_len hcw]; omega)) rfl rfl rfl H60 ?_
            clear H60; intro a61 H61
            refine plain (y_fieldS rfl z_field30_2 rfl (rd_row (by repeat (first | exact Mh | apply Mt))) (by rw [Auction.bdc_len hcw]; omega)) rfl rfl rfl H61 ?_
            clear H61; intro a62 H62
            refine plain (y_loadR rfl z_agg3 rfl (rd_row (by repeat (first | exact Mh | apply Mt))) (by simp only [Int.toNat_natCast, Nat.zero_add, Nat.add_zero]; exact (show _ = some (i64 ((Auction.counts l fs r fl).getD i Note.Bid.zero).amount) from Auction.bdc_at (c := 2) hcw hil (by omega)))) rfl rfl rfl H62 ?_
            clear H62; intro a63 H63
            refine plain (y_move rfl rfl) rfl rfl rfl H63 ?_
            clear H63; intro a64 H64
            refine plain (y_gtr rfl rfl rfl) rfl rfl rfl H64 ?_
            clear H64; intro a65 H65
            refine plain (y_pick_t rfl rfl rfl) rfl rfl rfl H65 ?_
            clear H65; intro a66 H66
            refine fin ?_
            refine then_n ?_
            refine cnd H66 rfl (fun hc67 => ?_) (fun hc67 => ?_) -- cond 5
            · skip
              try simp only [decide_eq_true_eq, decide_eq_false_iff_not, Bool.not_eq_true', Bool.not_eq_false', Bool.and_eq_true, Bool.not_eq_true, Bool.not_eq_false] at hc67
              refine reg ?_
              refine plain (y_move rfl rfl) rfl rfl rfl H66 ?_
              clear H66; intro a68 H68
              refine plain (y_move rfl rfl) rfl rfl rfl H68 ?_
              clear H68; intro a69 H69
              refine plain (y_ixR rfl Tryd.underlying22 z_size30 rfl rfl (by omega) (by omega) (rd_row (by repeat (first | exact Mh | apply Mt))) (by rw [Auction.bdc_len hcw]; omega)) rfl rfl rfl H69 ?_
              clear H69; intro a70 H70
              refine plain (y_fieldS rfl z_field30_2 rfl (rd_row (by repeat (first | exact Mh | apply Mt))) (by rw [Auction.bdc_len hcw]; omega)) rfl rfl rfl H70 ?_
              clear H70; intro a71 H71
              refine plain (y_loadR rfl z_agg3 rfl (rd_row (by repeat (first | exact Mh | apply Mt))) (by simp only [Int.toNat_natCast, Nat.zero_add, Nat.add_zero]; exact (show _ = some (i64 ((Auction.counts l fs r fl).getD i Note.Bid.zero).amount) from Auction.bdc_at (c := 2) hcw hil (by omega)))) rfl rfl rfl H71 ?_
              clear H71; intro a72 H72
              refine plain (y_assign rfl rfl) rfl rfl rfl H72 ?_
              clear H72; intro a73 H73
              refine fin ?_
              refine inb_n ?_
              refine then_n ?_
              refine reg ?_
              refine plain (y_move rfl rfl) rfl rfl rfl H73 ?_
              clear H73; intro a74 H74
              refine plain (y_add rfl rfl rfl (by first | exact w64 (by omega) (by omega) | rfl)) rfl rfl rfl H74 ?_
              clear H74; intro a75 H75
              refine plain (y_assign rfl rfl) rfl rfl rfl H75 ?_
              clear H75; intro a76 H76
              refine fin ?_
              refine then_n ?_
              refine ⟨i + 1, by omega, by omega, H76.weak ⟨rfl, rfl, rfl, rfl, fi rfl ?_, fi rfl (by omega), trivial⟩ rfl⟩
              first | (rw [Auction.price_same (i := i) (k := (Auction.best (Auction.counts l fs r fl) (Auction.counts l fs r fl).length)) (by omega)]) | (rw [Auction.price_more (i := i) (k := (Auction.best (Auction.counts l fs r fl) (Auction.counts l fs r fl).length)) (by omega)]; omega)
            · skip
              try simp only [decide_eq_true_eq, decide_eq_false_iff_not, Bool.not_eq_true', Bool.not_eq_false', Bool.and_eq_true, Bool.not_eq_true, Bool.not_eq_false] at hc67
              refine wp_skip ?_
              refine inb_n ?_
              refine then_n ?_
              refine reg ?_
              refine plain (y_move rfl rfl) rfl rfl rfl H66 ?_
              clear H66; intro a77 H77
              refine plain (y_add rfl rfl rfl (by first | exact w64 (by omega) (by omega) | rfl)) rfl rfl rfl H77 ?_
              clear H77; intro a78 H78
              refine plain (y_assign rfl rfl) rfl rfl rfl H78 ?_
              clear H78; intro a79 H79
              refine fin ?_
              refine then_n ?_
              refine ⟨i + 1, by omega, by omega, H79.weak ⟨rfl, rfl, rfl, rfl, fi rfl ?_, fi rfl (by omega), trivial⟩ rfl⟩
              first | (rw [Auction.price_same (i := i) (k := (Auction.best (Auction.counts l fs r fl) (Auction.counts l fs r fl).length)) (by omega)]) | (rw [Auction.price_more (i := i) (k := (Auction.best (Auction.counts l fs r fl) (Auction.counts l fs r fl).length)) (by omega)]; omega)
        · first
          | fail
          | skip
            clear H56; intro H80
            try simp only [decide_eq_true_eq, decide_eq_false_iff_not, Bool.not_eq_true', Bool.not_eq_false', Bool.and_eq_true, Bool.not_eq_true, Bool.not_eq_false] at hg57
            refine skip rfl rfl rfl H80 ?_
            clear H80; intro a81 H81
            refine skip rfl rfl rfl H81 ?_
            clear H81; intro a82 H82
            refine skip rfl rfl rfl H82 ?_
            clear H82; intro a83 H83
            refine skip rfl rfl rfl H83 ?_
            clear H83; intro a84 H84
            refine skip rfl rfl rfl H84 ?_
            clear H84; intro a85 H85
            refine skip rfl rfl rfl H85 ?_
            clear H85; intro a86 H86
            refine skip rfl rfl rfl H86 ?_
            clear H86; intro a87 H87
            refine plain (y_pick_f rfl rfl rfl) rfl rfl rfl H87 ?_
            clear H87; intro a88 H88
            refine fin ?_
            refine then_n ?_
            refine cnd_f H88 rfl ?_
            refine wp_skip ?_
            refine inb_n ?_
            refine then_n ?_
            refine reg ?_
            refine plain (y_move rfl rfl) rfl rfl rfl H88 ?_
            clear H88; intro a90 H90
            refine plain (y_add rfl rfl rfl (by first | exact w64 (by omega) (by omega) | rfl)) rfl rfl rfl H90 ?_
            clear H90; intro a91 H91
            refine plain (y_assign rfl rfl) rfl rfl rfl H91 ?_
            clear H91; intro a92 H92
            refine fin ?_
            refine then_n ?_
            refine ⟨i + 1, by omega, by omega, H92.weak ⟨rfl, rfl, rfl, rfl, fi rfl ?_, fi rfl (by omega), trivial⟩ rfl⟩
            first | (rw [Auction.price_same (i := i) (k := (Auction.best (Auction.counts l fs r fl) (Auction.counts l fs r fl).length)) (by omega)]) | (rw [Auction.price_more (i := i) (k := (Auction.best (Auction.counts l fs r fl) (Auction.counts l fs r fl).length)) (by omega)]; omega)
      · skip
        try simp only [decide_eq_true_eq, decide_eq_false_iff_not, Bool.not_eq_true', Bool.not_eq_false', Bool.and_eq_true, Bool.not_eq_true, Bool.not_eq_false] at hc52
        refine wp_exit ?_
        refine then_x ?_
        refine then_x ?_
        refine inb_hit ?_
        refine then_n ?_
        refine wp_seq ?_
        have hwk := Auction.atD hcw hbl
        have htk := hwk.tag
        refine reg ?_
        refine plain (y_move rfl rfl) rfl rfl rfl H51 ?_
        clear H51; intro a93 H93
        refine plain (y_move rfl rfl) rfl rfl rfl H93 ?_
        clear H93; intro a94 H94
        refine plain (y_ixR rfl Tryd.underlying22 z_size30 rfl rfl (by omega) (by omega) (rd_row (by repeat (first | exact Mh | apply Mt))) (by rw [Auction.bdc_len hcw]; omega)) rfl rfl rfl H94 ?_
        clear H94; intro a95 H95
        refine plain (y_loadAS rfl z_agg30 z_size30 rfl (rd_row (by repeat (first | exact Mh | apply Mt))) (show _ = Note.Bid.cells ((Auction.counts l fs r fl).getD (Auction.best (Auction.counts l fs r fl) (Auction.counts l fs r fl).length) Note.Bid.zero) from Auction.bdc_take hcw _ hbl) (Auction.bid_len htk) (by decide)) rfl rfl rfl H95 ?_
        clear H95; intro a96 H96
        refine plain (y_move rfl rfl) rfl rfl rfl H96 ?_
        clear H96; intro a97 H97
        refine plain (y_build rfl z_zeroN32 z_places32 rfl (lay_f (off := 0) (z := 36) (n := 37) rfl (agg_cells _) (q_len_c4b32 (by assumption)) (q_len_c4b32c1 (by assumption)) (by decide) (q_spl_c4b32c1_0_c4b32 (by assumption) (by assumption)) (lay_1 (off := 36) (n := 37) rfl (q_len_c4b32c1 (by assumption)) (by decide) (q_spl_c4b32c1_36_c1 (by assumption)) lay_n (by rfl)))) rfl rfl rfl H97 ?_
        clear H97; intro a98 H98
        refine st_storeN rfl z_size32 rfl rfl (agg_cells _) (by repeat (first | exact Uh | apply Ut)) (q_one_c4b32c1 rfl rfl rfl rfl rfl) (q_len_c4b32c1 (by assumption)) (q_len_c4b32c1 (by assumption)) (q_spl_c4b32c1_0_c4b32c1 (by assumption) (by assumption)) (by decide) rfl rfl H98 ?_
        clear H98; intro wx99 H99
        refine plain (y_assign rfl rfl) rfl rfl rfl H99 ?_
        clear H99; intro a100 H100
        refine fin ?_
        refine then_n ?_
        refine wp_ret ?_
        -- return 2
        refine retct rfl H100 rfl z_agg32 z_size32 (by repeat (first | exact Mh | apply Mt)) (q_len_c4b32c1 (by assumption)) rfl ?_
        refine ⟨_, [], rfl, ⟨?_, rfl⟩, H100.sep.sub (List.nil_sublist _)⟩
        rw [show (Auction.counts l fs r fl).length = i by omega]
        rfl

end Go.Proofs.YtaeahloenahelaaDoor.A_RWin

set_option linter.unusedVariables false
set_option linter.unusedSimpArgs false
namespace Go.Proofs.YtaeahloenahelaaDoor.A_Law
open Go.Sx Go.RowKit Go.Proofs.YtaeahloenahelaaDoor.A_Block Go.Proofs.YtaeahloenahelaaDoor.A_Sum Go.Proofs.YtaeahloenahelaaDoor.A_Ref Go.Proofs.YtaeahloenahelaaDoor.A_RSum Go.Proofs.YtaeahloenahelaaDoor.A_Leaf Go.Proofs.YtaeahloenahelaaDoor.A_Num Go.Proofs.YtaeahloenahelaaDoor.A_Key Go.Proofs.YtaeahloenahelaaDoor.A_Ref Go.Proofs.YtaeahloenahelaaDoor.A_RSum Go.Proofs.YtaeahloenahelaaDoor.A_Tag Go.Proofs.YtaeahloenahelaaDoor.A_Lay Go.Proofs.YtaeahloenahelaaDoor.A_Eq Go.Proofs.YtaeahloenahelaaDoor.A_Ref0 Go.Proofs.YtaeahloenahelaaDoor.A_Sign Go.Proofs.YtaeahloenahelaaDoor.A_RefB Go.Proofs.YtaeahloenahelaaDoor.A_Win

theorem z_size30 : sizeB Tryd.prog 30 = some 36 := by kernel_rfl
theorem z_zeroN30 : zeroL Tryd.prog 30 = some ((.int .i64 0 :: (.int .i64 0 :: (.int .i64 0 :: (.int .i64 0 :: (List.replicate 32 (0 : UInt8)).map u8))))) := by kernel_rfl
theorem z_places30 : placesB Tryd.prog 30 = some [(0, 1), (1, 1), (2, 1), (3, 1), (4, 32)] := by kernel_rfl
theorem q_len_c4b32 {a0 a1 a2 a3 : Value} {t4 : List UInt8} (h4 : t4.length = 32) : (a0 :: a1 :: a2 :: a3 :: t4.map u8).length = 36 := (len_c (n := 35) (len_c (n := 34) (len_c (n := 33) (len_c (n := 32) (len_e (k := 32) h4)))))
theorem q_spl_c4b32_0_c1 {a0 a1 a2 a3 : Value} {t4 : List UInt8} {b0 : Value} : spl (a0 :: a1 :: a2 :: a3 :: t4.map u8) 0 (b0 :: []) = b0 :: a1 :: a2 :: a3 :: t4.map u8 := spl_0
theorem q_spl_c4b32_1_c1 {a0 a1 a2 a3 : Value} {t4 : List UInt8} {b0 : Value} : spl (a0 :: a1 :: a2 :: a3 :: t4.map u8) 1 (b0 :: []) = a0 :: b0 :: a2 :: a3 :: t4.map u8 := (spl_c (o := 0) spl_0)
theorem q_spl_c4b32_2_c1 {a0 a1 a2 a3 : Value} {t4 : List UInt8} {b0 : Value} : spl (a0 :: a1 :: a2 :: a3 :: t4.map u8) 2 (b0 :: []) = a0 :: a1 :: b0 :: a3 :: t4.map u8 := (spl_c (o := 1) (spl_c (o := 0) spl_0))
theorem z_call50 : callB Tryd.prog 50 = true := by kernel_rfl
theorem q_one_c4b32 {a0 a1 a2 a3 : Value} {t4 : List UInt8} (o0 : a0.oneCell' = true) (o1 : a1.oneCell' = true) (o2 : a2.oneCell' = true) (o3 : a3.oneCell' = true) : (a0 :: a1 :: a2 :: a3 :: t4.map u8).all (·.oneCell') = true := (one_c o0 (one_c o1 (one_c o2 (one_c o3 (one_u8 _)))))
theorem q_spl_c4b32_0_c4b32 {a0 a1 a2 a3 : Value} {t4 : List UInt8} {b0 b1 b2 b3 : Value} {s4 : List UInt8} (h4 : t4.length = 32) (g4 : s4.length = 32) : spl (a0 :: a1 :: a2 :: a3 :: t4.map u8) 0 (b0 :: b1 :: b2 :: b3 :: s4.map u8) = b0 :: b1 :: b2 :: b3 :: s4.map u8 := (spl_a (z := 36) (len_c (n := 35) (len_c (n := 34) (len_c (n := 33) (len_c (n := 32) (len_e (k := 32) h4))))) (len_c (n := 35) (len_c (n := 34) (len_c (n := 33) (len_c (n := 32) (len_e (k := 32) g4))))))
theorem z_agg30 : aggB Tryd.prog 30 = some true := by kernel_rfl
theorem q_ld_c4b32_0_36 {a0 a1 a2 a3 : Value} {t4 : List UInt8} (h4 : t4.length = 32) : ((a0 :: a1 :: a2 :: a3 :: t4.map u8).drop 0).take 36 = a0 :: a1 :: a2 :: a3 :: t4.map u8 := (ld_a (len_c (n := 35) (len_c (n := 34) (len_c (n := 33) (len_c (n := 32) (len_e (k := 32) h4))))))
theorem z_zero30 : zeroL Tryd.prog 30 = some ([.int .i64 0, .int .i64 0, .int .i64 0, .int .i64 0, .int .u8 0, .int .u8 0, .int .u8 0, .int .u8 0, .int .u8 0, .int .u8 0, .int .u8 0, .int .u8 0, .int .u8 0, .int .u8 0, .int .u8 0, .int .u8 0, .int .u8 0, .int .u8 0, .int .u8 0, .int .u8 0, .int .u8 0, .int .u8 0, .int .u8 0, .int .u8 0, .int .u8 0, .int .u8 0, .int .u8 0, .int .u8 0, .int .u8 0, .int .u8 0, .int .u8 0, .int .u8 0, .int .u8 0, .int .u8 0, .int .u8 0, .int .u8 0]) := by kernel_rfl
theorem z_size3 : sizeB Tryd.prog 3 = some 1 := by kernel_rfl
theorem z_zero3 : zeroL Tryd.prog 3 = some ([.int .i64 0]) := by kernel_rfl
theorem z_call13 : callB Tryd.prog 13 = true := by kernel_rfl
theorem z_zeroN32 : zeroL Tryd.prog 32 = some ((.int .i64 0 :: (.int .i64 0 :: (.int .i64 0 :: (.int .i64 0 :: ((List.replicate 32 (0 : UInt8)).map u8 ++ (.int .i64 0 :: []))))))) := by kernel_rfl
theorem z_size32 : sizeB Tryd.prog 32 = some 37 := by kernel_rfl
theorem q_one_c4b32c1 {a0 a1 a2 a3 a5 : Value} {t4 : List UInt8} (o0 : a0.oneCell' = true) (o1 : a1.oneCell' = true) (o2 : a2.oneCell' = true) (o3 : a3.oneCell' = true) (o5 : a5.oneCell' = true) : (a0 :: a1 :: a2 :: a3 :: (t4.map u8 ++ (a5 :: []))).all (·.oneCell') = true := (one_c o0 (one_c o1 (one_c o2 (one_c o3 (one_b (one_c o5 one_n))))))
theorem q_len_c4b32c1 {a0 a1 a2 a3 a5 : Value} {t4 : List UInt8} (h4 : t4.length = 32) : (a0 :: a1 :: a2 :: a3 :: (t4.map u8 ++ (a5 :: []))).length = 37 := (len_c (n := 36) (len_c (n := 35) (len_c (n := 34) (len_c (n := 33) (len_b (k := 32) (n := 1) h4 (len_c (n := 0) len_n))))))
theorem q_spl_c4b32c1_0_c4b32c1 {a0 a1 a2 a3 a5 : Value} {t4 : List UInt8} {b0 b1 b2 b3 b5 : Value} {s4 : List UInt8} (h4 : t4.length = 32) (g4 : s4.length = 32) : spl (a0 :: a1 :: a2 :: a3 :: (t4.map u8 ++ (a5 :: []))) 0 (b0 :: b1 :: b2 :: b3 :: (s4.map u8 ++ (b5 :: []))) = b0 :: b1 :: b2 :: b3 :: (s4.map u8 ++ (b5 :: [])) := (spl_a (z := 37) (len_c (n := 36) (len_c (n := 35) (len_c (n := 34) (len_c (n := 33) (len_b (k := 32) (n := 1) h4 (len_c (n := 0) len_n)))))) (len_c (n := 36) (len_c (n := 35) (len_c (n := 34) (len_c (n := 33) (len_b (k := 32) (n := 1) g4 (len_c (n := 0) len_n)))))))
theorem z_field32_0 : fieldB Tryd.prog 32 0 = some 0 := by kernel_rfl
theorem q_ld_c4b32c1_0_36 {a0 a1 a2 a3 a5 : Value} {t4 : List UInt8} (h4 : t4.length = 32) : ((a0 :: a1 :: a2 :: a3 :: (t4.map u8 ++ (a5 :: []))).drop 0).take 36 = a0 :: a1 :: a2 :: a3 :: t4.map u8 := (ld_s (ld_s (ld_s (ld_s (ld_h h4)))))
theorem z_field32_1 : fieldB Tryd.prog 32 1 = some 36 := by kernel_rfl
theorem z_agg3 : aggB Tryd.prog 3 = some false := by kernel_rfl
theorem q_ix_c4b32c1_36 {a0 a1 a2 a3 a5 : Value} {t4 : List UInt8} (h4 : t4.length = 32) : (a0 :: a1 :: a2 :: a3 :: (t4.map u8 ++ (a5 :: [])))[36]? = some a5 := (ix_c (o := 35) (ix_c (o := 34) (ix_c (o := 33) (ix_c (o := 32) (ix_b (k := 32) (o := 0) h4 rfl ix_0)))))

set_option maxRecDepth 100000 in
set_option maxHeartbeats 2000000 in
theorem aawake {w : World} (hG : Glob 0 Sha.K w) : Calls Tryd.prog 15 #[] w (Gives (.bool true) [] w) := by
  have ha1 : Auction.A1.tag.length = 32 := Auction.A1_len
  have ha2 : Auction.A2.tag.length = 32 := Auction.A2_len
  have lz32 : (List.replicate 32 (0 : UInt8)).length = 32 := List.length_replicate
  refine enterL (args := []) Tryd.func15 rfl rfl (l := []) (Sep.refl _) ?_
  intro a0 H0
  refine wp_seq ?_
  refine reg ?_
  refine plain (y_assign rfl rfl) rfl rfl rfl H0 ?_
  clear H0; intro a1 H1
  refine fin ?_
  refine then_n ?_
  refine wp_seq ?_
  refine reg ?_
  refine plain (y_build rfl z_zeroN30 z_places30 rfl (lay_1 (off := 0) (n := 36) rfl (q_len_c4b32 (by first | assumption | exact Note.sign_len _)) (by decide) q_spl_c4b32_0_c1 (lay_1 (off := 1) (n := 36) rfl (q_len_c4b32 (by first | assumption | exact Note.sign_len _)) (by decide) q_spl_c4b32_1_c1 (lay_1 (off := 2) (n := 36) rfl (q_len_c4b32 (by first | assumption | exact Note.sign_len _)) (by decide) q_spl_c4b32_2_c1 lay_n (by rfl)) (by rfl)) (by rfl))) rfl rfl rfl H1 ?_
  clear H1; intro a2 H2
  refine st_callg rfl z_call50 rfl rfl rfl rfl H2 (show Calls Tryd.prog 50 #[.agg (Note.Bid.cells ⟨1, 1, 10, 0, Note.Z⟩).toArray] _ (Gives (.tuple #[.agg (Note.Bid.cells Auction.A1).toArray, .int .i64 (Note.signBid ⟨1, 1, 10, 0, Note.Z⟩).2]) [] _) from rsign ⟨1, 1, 10, 0, Note.Z⟩ (Note.bid_wf0 (by decide) Note.Z_len) _) ?_
  clear H2; intro a3 wx3 H3
  refine plain (y_move rfl rfl) rfl rfl rfl H3 ?_
  clear H3; intro a4 H4
  refine plain (y_extract rfl rfl rfl) rfl rfl rfl H4 ?_
  clear H4; intro a5 H5
  refine plain (y_extract rfl rfl rfl) rfl rfl rfl H5 ?_
  clear H5; intro a6 H6
  refine st_alloc rfl z_zeroN30 rfl rfl rfl H6 ?_
  clear H6; intro b7 a7 wx7 H7
  refine st_storeN rfl z_size30 rfl rfl (agg_cells _) (by repeat (first | exact Uh | apply Ut)) (q_one_c4b32 rfl rfl rfl rfl) (q_len_c4b32 (by first | assumption | exact Note.sign_len _)) (q_len_c4b32 (by first | assumption | exact Note.sign_len _)) (q_spl_c4b32_0_c4b32 (by first | assumption | exact Note.sign_len _) (by first | assumption | exact Note.sign_len _)) (by decide) rfl rfl H7 ?_
  clear H7; intro wx8 H8
  refine plain (y_assign rfl rfl) rfl rfl rfl H8 ?_
  clear H8; intro a9 H9
  refine fin ?_
  refine then_n ?_
  refine wp_seq ?_
  refine reg ?_
  refine plain (y_build rfl z_zeroN30 z_places30 rfl (lay_1 (off := 0) (n := 36) rfl (q_len_c4b32 (by first | assumption | exact Note.sign_len _)) (by decide) q_spl_c4b32_0_c1 (lay_1 (off := 1) (n := 36) rfl (q_len_c4b32 (by first | assumption | exact Note.sign_len _)) (by decide) q_spl_c4b32_1_c1 (lay_1 (off := 2) (n := 36) rfl (q_len_c4b32 (by first | assumption | exact Note.sign_len _)) (by decide) q_spl_c4b32_2_c1 lay_n (by rfl)) (by rfl)) (by rfl))) rfl rfl rfl H9 ?_
  clear H9; intro a10 H10
  refine st_callg rfl z_call50 rfl rfl rfl rfl H10 (show Calls Tryd.prog 50 #[.agg (Note.Bid.cells ⟨1, 2, 7, 0, Note.Z⟩).toArray] _ (Gives (.tuple #[.agg (Note.Bid.cells Auction.A2).toArray, .int .i64 (Note.signBid ⟨1, 2, 7, 0, Note.Z⟩).2]) [] _) from rsign ⟨1, 2, 7, 0, Note.Z⟩ (Note.bid_wf0 (by decide) Note.Z_len) _) ?_
  clear H10; intro a11 wx11 H11
  refine plain (y_move rfl rfl) rfl rfl rfl H11 ?_
  clear H11; intro a12 H12
  refine plain (y_extract rfl rfl rfl) rfl rfl rfl H12 ?_
  clear H12; intro a13 H13
  refine plain (y_extract rfl rfl rfl) rfl rfl rfl H13 ?_
  clear H13; intro a14 H14
  refine st_alloc rfl z_zeroN30 rfl rfl rfl H14 ?_
  clear H14; intro b15 a15 wx15 H15
  refine st_storeN rfl z_size30 rfl rfl (agg_cells _) (by repeat (first | exact Uh | apply Ut)) (q_one_c4b32 rfl rfl rfl rfl) (q_len_c4b32 (by first | assumption | exact Note.sign_len _)) (q_len_c4b32 (by first | assumption | exact Note.sign_len _)) (q_spl_c4b32_0_c4b32 (by first | assumption | exact Note.sign_len _) (by first | assumption | exact Note.sign_len _)) (by decide) rfl rfl H15 ?_
  clear H15; intro wx16 H16
  refine plain (y_assign rfl rfl) rfl rfl rfl H16 ?_
  clear H16; intro a17 H17
  refine fin ?_
  refine then_n ?_
  refine wp_seq ?_
  refine reg ?_
  refine plain (y_loadAB rfl z_agg30 z_size30 rfl (by repeat (first | exact Mh | apply Mt)) (q_ld_c4b32_0_36 (by first | assumption | exact Note.sign_len _)) (q_len_c4b32 (by first | assumption | exact Note.sign_len _))) rfl rfl rfl H17 ?_
  clear H17; intro a18 H18
  refine plain (y_loadAB rfl z_agg30 z_size30 rfl (by repeat (first | exact Mh | apply Mt)) (q_ld_c4b32_0_36 (by first | assumption | exact Note.sign_len _)) (q_len_c4b32 (by first | assumption | exact Note.sign_len _))) rfl rfl rfl H18 ?_
  clear H18; intro a19 H19
  refine st_buildSlice rfl Tryd.underlying22 z_size30 z_zero30 rfl rfl rfl (lay_agg2 (agg_cells _) (agg_cells _) (Auction.bid_len ha2) (Auction.bid_len ha1) rfl) rfl rfl rfl H19 ?_
  clear H19; intro b20 a20 wx20 H20
  refine st_buildSlice1 (xs := [.const (.int .i64 (0)), .const (.int .i64 (10)), .const (.int .i64 (10))]) rfl Tryd.underlying23 z_size3 z_zero3 rfl rfl rfl rfl rfl rfl rfl rfl rfl H20 ?_
  clear H20; intro b21 a21 wx21 H21
  refine st_callg rfl z_call13 rfl rfl rfl rfl H21 (by have h := awin [Auction.A2, Auction.A1] [0, 10, 10] 1 3 _ _ 2 3 2 3 rfl rfl (by simp) (by simp) Auction.A_wf (by rw [Auction.bdc_two]; exact Rd.ofSep (rd_blkA (by repeat (first | exact Mh | apply Mt))) H21.sep) (Rd.ofSep (rd_blkA (by repeat (first | exact Mh | apply Mt))) H21.sep) (hG.frm H21.sep.frm (by simp)); rw [Auction.aw_win1] at h; exact h) ?_
  clear H21; intro a22 wx22 H22
  refine plain (y_move rfl rfl) rfl rfl rfl H22 ?_
  clear H22; intro a23 H23
  refine plain (y_extract rfl rfl rfl) rfl rfl rfl H23 ?_
  clear H23; intro a24 H24
  refine plain (y_extract rfl rfl rfl) rfl rfl rfl H24 ?_
  clear H24; intro a25 H25
  refine st_alloc rfl z_zeroN32 rfl rfl rfl H25 ?_
  clear H25; intro b26 a26 wx26 H26
  refine st_storeN rfl z_size32 rfl rfl (agg_cells _) (by repeat (first | exact Uh | apply Ut)) (q_one_c4b32c1 rfl rfl rfl rfl rfl) (q_len_c4b32c1 (by first | assumption | exact Note.sign_len _)) (q_len_c4b32c1 (by first | assumption | exact Note.sign_len _)) (q_spl_c4b32c1_0_c4b32c1 (by first | assumption | exact Note.sign_len _) (by first | assumption | exact Note.sign_len _)) (by decide) rfl rfl H26 ?_
  clear H26; intro wx27 H27
  refine plain (y_assign rfl rfl) rfl rfl rfl H27 ?_
  clear H27; intro a28 H28
  refine fin ?_
  refine then_n ?_
  refine wp_seq ?_
  refine reg ?_
  refine plain (y_loadAB rfl z_agg30 z_size30 rfl (by repeat (first | exact Mh | apply Mt)) (q_ld_c4b32_0_36 (by first | assumption | exact Note.sign_len _)) (q_len_c4b32 (by first | assumption | exact Note.sign_len _))) rfl rfl rfl H28 ?_
  clear H28; intro a29 H29
  refine plain (y_loadAB rfl z_agg30 z_size30 rfl (by repeat (first | exact Mh | apply Mt)) (q_ld_c4b32_0_36 (by first | assumption | exact Note.sign_len _)) (q_len_c4b32 (by first | assumption | exact Note.sign_len _))) rfl rfl rfl H29 ?_
  clear H29; intro a30 H30
  refine st_buildSlice rfl Tryd.underlying22 z_size30 z_zero30 rfl rfl rfl (lay_agg2 (agg_cells _) (agg_cells _) (Auction.bid_len ha2) (Auction.bid_len ha1) rfl) rfl rfl rfl H30 ?_
  clear H30; intro b31 a31 wx31 H31
  refine st_buildSlice1 (xs := [.const (.int .i64 (0)), .const (.int .i64 (10)), .const (.int .i64 (6))]) rfl Tryd.underlying23 z_size3 z_zero3 rfl rfl rfl rfl rfl rfl rfl rfl rfl H31 ?_
  clear H31; intro b32 a32 wx32 H32
  refine st_callg rfl z_call13 rfl rfl rfl rfl H32 (by have h := awin [Auction.A2, Auction.A1] [0, 10, 6] 1 3 _ _ 2 3 2 3 rfl rfl (by simp) (by simp) Auction.A_wf (by rw [Auction.bdc_two]; exact Rd.ofSep (rd_blkA (by repeat (first | exact Mh | apply Mt))) H32.sep) (Rd.ofSep (rd_blkA (by repeat (first | exact Mh | apply Mt))) H32.sep) (hG.frm H32.sep.frm (by simp)); rw [Auction.aw_win2] at h; exact h) ?_
  clear H32; intro a33 wx33 H33
  refine plain (y_move rfl rfl) rfl rfl rfl H33 ?_
  clear H33; intro a34 H34
  refine plain (y_extract rfl rfl rfl) rfl rfl rfl H34 ?_
  clear H34; intro a35 H35
  refine plain (y_extract rfl rfl rfl) rfl rfl rfl H35 ?_
  clear H35; intro a36 H36
  refine st_alloc rfl z_zeroN32 rfl rfl rfl H36 ?_
  clear H36; intro b37 a37 wx37 H37
  refine st_storeN rfl z_size32 rfl rfl (agg_cells _) (by repeat (first | exact Uh | apply Ut)) (q_one_c4b32c1 rfl rfl rfl rfl rfl) (q_len_c4b32c1 (by first | assumption | exact Note.sign_len _)) (q_len_c4b32c1 (by first | assumption | exact Note.sign_len _)) (q_spl_c4b32c1_0_c4b32c1 (by first | assumption | exact Note.sign_len _) (by first | assumption | exact Note.sign_len _)) (by decide) rfl rfl H37 ?_
  clear H37; intro wx38 H38
  refine plain (y_assign rfl rfl) rfl rfl rfl H38 ?_
  clear H38; intro a39 H39
  refine fin ?_
  refine then_n ?_
  refine wp_seq ?_
  refine reg ?_
  refine plain (y_move rfl rfl) rfl rfl rfl H39 ?_
  clear H39; intro a40 H40
  refine plain (y_move rfl rfl) rfl rfl rfl H40 ?_
  clear H40; intro a41 H41
  have H43 := H41.know (d := 36) (v := .bool true) rfl ((by first | rfl | exact congrArg Value.bool (decide_eq_true rfl)))
  clear H41
  refine plain (y_fieldB rfl z_field32_0 rfl (by first | (simp only [Nat.zero_add, Nat.add_zero, Nat.reduceAdd]; rfl) | rfl)) rfl rfl rfl H43 ?_
  clear H43; intro a44 H44
  refine plain (y_loadAB rfl z_agg30 z_size30 rfl (by repeat (first | exact Mh | apply Mt)) (q_ld_c4b32c1_0_36 (by first | assumption | exact Note.sign_len _)) (q_len_c4b32 (by first | assumption | exact Note.sign_len _))) rfl rfl rfl H44 ?_
  clear H44; intro a45 H45
  refine plain (y_loadAB rfl z_agg30 z_size30 rfl (by repeat (first | exact Mh | apply Mt)) (q_ld_c4b32_0_36 (by first | assumption | exact Note.sign_len _)) (q_len_c4b32 (by first | assumption | exact Note.sign_len _))) rfl rfl rfl H45 ?_
  clear H45; intro a46 H46
  refine plain (y_teql rfl (by kernel_rfl) rfl rfl (eqr_Bid Auction.A1 Auction.A1 ha1 ha1)) rfl rfl rfl H46 ?_
  clear H46; intro a47 H47
  refine plain (y_pick_t rfl rfl rfl) rfl rfl rfl H47 ?_
  clear H47; intro a48 H48
  refine plain (y_move rfl rfl) rfl rfl rfl H48 ?_
  clear H48; intro a49 H49
  have H51 := H49.know (d := 42) (v := .bool true) rfl ((by first | rfl | exact congrArg Value.bool (decide_eq_true rfl)))
  clear H49
  refine plain (y_fieldB rfl z_field32_1 rfl (by first | (simp only [Nat.zero_add, Nat.add_zero, Nat.reduceAdd]; rfl) | rfl)) rfl rfl rfl H51 ?_
  clear H51; intro a52 H52
  refine plain (y_loadB rfl z_agg3 rfl (by repeat (first | exact Mh | apply Mt)) (q_ix_c4b32c1_36 (by first | assumption | exact Note.sign_len _))) rfl rfl rfl H52 ?_
  clear H52; intro a53 H53
  refine plain (y_eql rfl rfl rfl) rfl rfl rfl H53 ?_
  clear H53; intro a54 H54
  refine plain (y_pick_t rfl rfl rfl) rfl rfl rfl H54 ?_
  clear H54; intro a55 H55
  refine plain (y_move rfl rfl) rfl rfl rfl H55 ?_
  clear H55; intro a56 H56
  have H58 := H56.know (d := 47) (v := .bool true) rfl ((by first | rfl | exact congrArg Value.bool (decide_eq_true rfl)))
  clear H56
  refine plain (y_move rfl rfl) rfl rfl rfl H58 ?_
  clear H58; intro a59 H59
  refine plain (y_pick_t rfl rfl rfl) rfl rfl rfl H59 ?_
  clear H59; intro a60 H60
  refine plain (y_move rfl rfl) rfl rfl rfl H60 ?_
  clear H60; intro a61 H61
  have H63 := H61.know (d := 50) (v := .bool true) rfl ((by first | rfl | exact congrArg Value.bool (decide_eq_true rfl)))
  clear H61
  refine plain (y_fieldB rfl z_field32_1 rfl (by first | (simp only [Nat.zero_add, Nat.add_zero, Nat.reduceAdd]; rfl) | rfl)) rfl rfl rfl H63 ?_
  clear H63; intro a64 H64
  refine plain (y_loadB rfl z_agg3 rfl (by repeat (first | exact Mh | apply Mt)) (q_ix_c4b32c1_36 (by first | assumption | exact Note.sign_len _))) rfl rfl rfl H64 ?_
  clear H64; intro a65 H65
  refine plain (y_eql rfl rfl rfl) rfl rfl rfl H65 ?_
  clear H65; intro a66 H66
  refine plain (y_pick_t rfl rfl rfl) rfl rfl rfl H66 ?_
  clear H66; intro a67 H67
  refine plain (y_assign rfl rfl) rfl rfl rfl H67 ?_
  clear H67; intro a68 H68
  refine fin ?_
  refine then_n ?_
  refine wp_ret ?_
  -- return 1
  refine ret1 rfl H68 rfl ?_
  exact ⟨_, [], rfl, ⟨congrArg Value.bool (decide_eq_true rfl), rfl⟩, H68.sep.sub (List.nil_sublist _)⟩

end Go.Proofs.YtaeahloenahelaaDoor.A_Law

set_option linter.unusedVariables false
set_option linter.unusedSimpArgs false
namespace Go.Proofs.YtaeahloenahelaaDoor.A_EqW
open Go.Sx Go.RowKit

theorem z_agg28 : aggB Tryd.prog 28 = some true := by kernel_rfl
theorem z_size28 : sizeB Tryd.prog 28 = some 32 := by kernel_rfl
theorem q_len_c4b32 {a0 a1 a2 a3 : Value} {t4 : List UInt8} (h4 : t4.length = 32) : (a0 :: a1 :: a2 :: a3 :: t4.map u8).length = 36 := (len_c (n := 35) (len_c (n := 34) (len_c (n := 33) (len_c (n := 32) (len_e (k := 32) h4)))))
theorem q_ld_c4b32_4_32 {a0 a1 a2 a3 : Value} {t4 : List UInt8} (h4 : t4.length = 32) : ((a0 :: a1 :: a2 :: a3 :: t4.map u8).drop 4).take 32 = t4.map u8 := (ld_c (o := 3) (ld_c (o := 2) (ld_c (o := 1) (ld_c (o := 0) (ld_a (len_e (k := 32) h4))))))
theorem z_size5 : sizeB Tryd.prog 5 = some 1 := by kernel_rfl
theorem z_agg3 : aggB Tryd.prog 3 = some false := by kernel_rfl
theorem q_ix_c4b32_3 {a0 a1 a2 a3 : Value} {t4 : List UInt8} : (a0 :: a1 :: a2 :: a3 :: t4.map u8)[3]? = some a3 := (ix_c (o := 2) (ix_c (o := 1) (ix_c (o := 0) ix_0)))
theorem q_ix_c4b32_2 {a0 a1 a2 a3 : Value} {t4 : List UInt8} : (a0 :: a1 :: a2 :: a3 :: t4.map u8)[2]? = some a2 := (ix_c (o := 1) (ix_c (o := 0) ix_0))
theorem q_ix_c4b32_1 {a0 a1 a2 a3 : Value} {t4 : List UInt8} : (a0 :: a1 :: a2 :: a3 :: t4.map u8)[1]? = some a1 := (ix_c (o := 0) ix_0)
theorem q_ix_c4b32_0 {a0 a1 a2 a3 : Value} {t4 : List UInt8} : (a0 :: a1 :: a2 :: a3 :: t4.map u8)[0]? = some a0 := ix_0
theorem q_ix_c4b32c1_36 {a0 a1 a2 a3 a5 : Value} {t4 : List UInt8} (h4 : t4.length = 32) : (a0 :: a1 :: a2 :: a3 :: (t4.map u8 ++ (a5 :: [])))[36]? = some a5 := (ix_c (o := 35) (ix_c (o := 34) (ix_c (o := 33) (ix_c (o := 32) (ix_b (k := 32) (o := 0) h4 rfl ix_0)))))
theorem z_agg30 : aggB Tryd.prog 30 = some true := by kernel_rfl
theorem z_size30 : sizeB Tryd.prog 30 = some 36 := by kernel_rfl
theorem q_len_c4b32c1 {a0 a1 a2 a3 a5 : Value} {t4 : List UInt8} (h4 : t4.length = 32) : (a0 :: a1 :: a2 :: a3 :: (t4.map u8 ++ (a5 :: []))).length = 37 := (len_c (n := 36) (len_c (n := 35) (len_c (n := 34) (len_c (n := 33) (len_b (k := 32) (n := 1) h4 (len_c (n := 0) len_n))))))
theorem q_ld_c4b32c1_0_36 {a0 a1 a2 a3 a5 : Value} {t4 : List UInt8} (h4 : t4.length = 32) : ((a0 :: a1 :: a2 :: a3 :: (t4.map u8 ++ (a5 :: []))).drop 0).take 36 = a0 :: a1 :: a2 :: a3 :: t4.map u8 := (ld_s (ld_s (ld_s (ld_s (ld_h h4)))))
theorem eqr_Bid9 (x y : Note.Bid) (hx_tag : x.tag.length = 32) (hy_tag : y.tag.length = 32) : EqR Tryd.prog 9999 30 (.agg (Note.Bid.cells x).toArray) (.agg (Note.Bid.cells y).toArray) (decide (x = y)) := by
  have h : EqR Tryd.prog 9999 30 (.agg (Note.Bid.cells x).toArray) (.agg (Note.Bid.cells y).toArray) (decide (x.round = y.round) && (decide (x.who = y.who) && (decide (x.amount = y.amount) && (decide (x.salt = y.salt) && (decide (x.tag = y.tag) && true))))) := eqr_struct Tryd.underlying30 (by kernel_rfl) (eqf_c (by decide) (pa_1 z_agg3 q_ix_c4b32_0) (pa_1 z_agg3 q_ix_c4b32_0) (eqr_int Tryd.underlying3) (eqf_c (by decide) (pa_1 z_agg3 q_ix_c4b32_1) (pa_1 z_agg3 q_ix_c4b32_1) (eqr_int Tryd.underlying3) (eqf_c (by decide) (pa_1 z_agg3 q_ix_c4b32_2) (pa_1 z_agg3 q_ix_c4b32_2) (eqr_int Tryd.underlying3) (eqf_c (by decide) (pa_1 z_agg3 q_ix_c4b32_3) (pa_1 z_agg3 q_ix_c4b32_3) (eqr_int Tryd.underlying3) (eqf_c (by decide) (pa_a z_agg28 z_size28 (q_len_c4b32 (by assumption)) (by decide) (q_ld_c4b32_4_32 (by assumption))) (pa_a z_agg28 z_size28 (q_len_c4b32 (by assumption)) (by decide) (q_ld_c4b32_4_32 (by assumption))) (eqr_bytes Tryd.underlying28 Tryd.underlying5 z_size5 hx_tag hy_tag) eqf_n)))))
  have e : decide (x = y) = (decide (x.round = y.round) && (decide (x.who = y.who) && (decide (x.amount = y.amount) && (decide (x.salt = y.salt) && (decide (x.tag = y.tag) && true))))) := by
    rw [Bool.eq_iff_iff]
    cases x
    cases y
    simp
  rw [e]
  exact h
theorem eqr_Win (x y : Auction.Win) (hx_bid_tag : x.bid.tag.length = 32) (hy_bid_tag : y.bid.tag.length = 32) : EqR Tryd.prog 10000 32 (.agg (Auction.Win.cells x).toArray) (.agg (Auction.Win.cells y).toArray) (decide (x = y)) := by
  have h : EqR Tryd.prog 10000 32 (.agg (Auction.Win.cells x).toArray) (.agg (Auction.Win.cells y).toArray) (decide (x.bid = y.bid) && (decide (x.price = y.price) && true)) := eqr_struct Tryd.underlying32 (by kernel_rfl) (eqf_c (by decide) (pa_a z_agg30 z_size30 (q_len_c4b32c1 (by assumption)) (by decide) (q_ld_c4b32c1_0_36 (by assumption))) (pa_a z_agg30 z_size30 (q_len_c4b32c1 (by assumption)) (by decide) (q_ld_c4b32c1_0_36 (by assumption))) (eqr_Bid9 x.bid y.bid hx_bid_tag hy_bid_tag) (eqf_c (by decide) (pa_1 z_agg3 (q_ix_c4b32c1_36 (by assumption))) (pa_1 z_agg3 (q_ix_c4b32c1_36 (by assumption))) (eqr_int Tryd.underlying3) eqf_n))
  have e : decide (x = y) = (decide (x.bid = y.bid) && (decide (x.price = y.price) && true)) := by
    rw [Bool.eq_iff_iff]
    cases x
    cases y
    simp
  rw [e]
  exact h

end Go.Proofs.YtaeahloenahelaaDoor.A_EqW

set_option linter.unusedVariables false
set_option linter.unusedSimpArgs false
namespace Go.Proofs.YtaeahloenahelaaDoor.A_Bk1
open Go.Sx Go.RowKit

theorem z_size3 : sizeB Tryd.prog 3 = some 1 := by kernel_rfl
theorem z_agg3 : aggB Tryd.prog 3 = some false := by kernel_rfl
theorem z_zero3 : zeroL Tryd.prog 3 = some ([.int .i64 0]) := by kernel_rfl
theorem z_call64 : callB Tryd.prog 64 = true := by kernel_rfl
theorem z_field114_0 : fieldB Tryd.prog 114 0 = some 0 := by kernel_rfl
theorem z_zero114 : zeroL Tryd.prog 114 = some (List.replicate 64 (.int .i64 0)) := by kernel_rfl
theorem z_places114 : placesB Tryd.prog 114 = some [(0, 64)] := by kernel_rfl
theorem z_slice23 : sliceB Tryd.prog 23 = some (3, 1, 8) := by kernel_rfl
theorem z_notint23 : notIntB Tryd.prog 23 = true := by kernel_rfl

set_option maxRecDepth 100000 in
set_option maxHeartbeats 1000000 in
theorem wrong_ (p : Option Addr) (nl : Bool) (hn : p.isNone = nl) (amt : Int) (l : List Int) (A : Option Addr) (m c : Nat) (hm : m = l.length) {w : World} (hR : Rd w A (l.map i64)) (hl : l.length ≤ 9223372036854775807) : Calls Tryd.prog 64 #[.pointer p, .int .i64 amt, .slice A m c] w (Gives (.int .i64 (Bank.wrong nl amt l)) [] w) := by
  subst hm
  refine enterL (args := [.pointer p, .int .i64 amt, .slice A l.length c]) Tryd.func64 rfl rfl (l := []) (Sep.refl _) ?_
  intro a0 H0
  refine wp_seq ?_
  refine reg ?_
  refine plain (y_assign rfl rfl) rfl rfl rfl H0 ?_
  clear H0; intro a1 H1
  refine fin ?_
  refine then_n ?_
  refine wp_seq ?_
  refine wp_seq ?_
  refine reg ?_
  refine plain (y_move rfl rfl) rfl rfl rfl H1 ?_
  clear H1; intro a2 H2
  refine plain (y_peql rfl Tryd.underlying70 rfl rfl) rfl rfl rfl H2 ?_
  clear H2; intro a3 H3
  refine fin ?_
  refine then_n ?_
  refine cnd H3 rfl (fun hc4 => ?_) (fun hc4 => ?_) -- cond 1
  · skip
    have e0 : nl = true := by rw [← hn]; exact hc4
    refine wp_seq ?_
    refine reg ?_
    refine plain (y_assign rfl rfl) rfl rfl rfl H3 ?_
    clear H3; intro a5 H5
    refine fin ?_
    refine then_n ?_
    refine wp_ret ?_
    refine then_r ?_
    -- return 1
    refine ret1 rfl H5 rfl ?_
    exact ⟨_, [], rfl, ⟨by rw [e0, Bank.wrong_nil], rfl⟩, H5.sep.sub (List.nil_sublist _)⟩
  · skip
    have e0 : nl = false := by rw [← hn]; exact hc4
    refine wp_skip ?_
    refine then_n ?_
    refine wp_seq ?_
    refine wp_seq ?_
    refine reg ?_
    refine plain (y_move rfl rfl) rfl rfl rfl H3 ?_
    clear H3; intro a6 H6
    refine plain (y_len rfl Tryd.underlying23 rfl) rfl rfl rfl H6 ?_
    clear H6; intro a7 H7
    refine plain (y_move rfl rfl) rfl rfl rfl H7 ?_
    clear H7; intro a8 H8
    refine fin ?_
    refine then_n ?_
    refine wp_block ?_
    refine loop (ι := Nat) (fun k => [(1, .int .i64 amt), (11, .slice A l.length c), (12, .int .i64 (l.length : Int)), (13, .int .i64 (k : Int))]) (fun k => []) (fun k => k ≤ l.length ∧ Bank.Fine l k) (fun k => l.length - k) (0) ⟨Nat.zero_le _, Bank.Fine.zero l⟩ (H8.weak ⟨rfl, rfl, rfl, rfl, trivial⟩ rfl) ?_
    clear H8; intro k a9 wx9 hok9 H9
    obtain ⟨hok, hfn⟩ := hok9
    refine wp_seq ?_
    refine reg ?_
    refine plain (y_lss rfl rfl rfl) rfl rfl rfl H9 ?_
    clear H9; intro a10 H10
    refine fin ?_
    refine then_n ?_
    refine wp_seq ?_
    refine cnd_d H10 rfl (fun hc11 => ?_) (fun hc11 => ?_) -- cond 2
    · skip
      refine wp_skip ?_
      refine then_n ?_
      refine wp_seq ?_
      refine wp_block ?_
      refine wp_seq ?_
      refine reg ?_
      refine plain (y_ixR rfl Tryd.underlying23 z_size3 rfl rfl (by omega) (by omega) (rd_old (by assumption) (by simp)) (by simp; omega)) rfl rfl rfl H10 ?_
      clear H10; intro a12 H12
      refine plain (y_loadR rfl z_agg3 rfl (rd_old (by assumption) (by simp)) (by simp only [Int.toNat_natCast, Nat.mul_one, Nat.add_zero]; exact i64_get _ _ (by omega))) rfl rfl rfl H12 ?_
      clear H12; intro a13 H13
      refine plain (y_assign rfl rfl) rfl rfl rfl H13 ?_
      clear H13; intro a14 H14
      refine fin ?_
      refine then_n ?_
      refine wp_seq ?_
      refine reg ?_
      refine plain (y_move rfl rfl) rfl rfl rfl H14 ?_
      clear H14; intro a15 H15
      refine plain (y_lss rfl rfl rfl) rfl rfl rfl H15 ?_
      clear H15; intro a16 H16
      refine plain (y_move rfl rfl) rfl rfl rfl H16 ?_
      clear H16; intro a17 H17
      refine part_d (d := 19) H17 rfl (fun hg18 => ?_) (fun hg18 => ?_)
      · first
        | fail
        | skip
          clear H17; intro H19
          refine skip rfl rfl rfl H19 ?_
          clear H19; intro a20 H20
          refine skip rfl rfl rfl H20 ?_
          clear H20; intro a21 H21
          refine plain (y_pick_t rfl rfl rfl) rfl rfl rfl H21 ?_
          clear H21; intro a22 H22
          refine fin ?_
          refine then_n ?_
          refine cnd_t H22 rfl ?_
          refine wp_seq ?_
          refine reg ?_
          refine plain (y_assign rfl rfl) rfl rfl rfl H22 ?_
          clear H22; intro a24 H24
          refine fin ?_
          refine then_n ?_
          refine wp_ret ?_
          refine inb_r ?_
          refine then_r ?_
          refine then_r ?_
          refine inb_r ?_
          refine then_r ?_
          -- return 2
          refine ret1 rfl H24 rfl ?_
          exact ⟨_, [], rfl, ⟨by rw [e0, Bank.wrong_who (k := k) (by omega) (by omega)], rfl⟩, H24.sep.sub (List.nil_sublist _)⟩
      · first
        | fail
        | skip
          clear H17; intro H25
          refine plain (y_move rfl rfl) rfl rfl rfl H25 ?_
          clear H25; intro a26 H26
          refine plain (y_geq rfl rfl rfl) rfl rfl rfl H26 ?_
          clear H26; intro a27 H27
          refine plain (y_pick_f rfl rfl rfl) rfl rfl rfl H27 ?_
          clear H27; intro a28 H28
          refine fin ?_
          refine then_n ?_
          refine cnd_d H28 rfl (fun hc29 => ?_) (fun hc29 => ?_) -- cond 4
          · skip
            refine wp_seq ?_
            refine reg ?_
            refine plain (y_assign rfl rfl) rfl rfl rfl H28 ?_
            clear H28; intro a30 H30
            refine fin ?_
            refine then_n ?_
            refine wp_ret ?_
            refine inb_r ?_
            refine then_r ?_
            refine then_r ?_
            refine inb_r ?_
            refine then_r ?_
            -- return 3
            refine ret1 rfl H30 rfl ?_
            exact ⟨_, [], rfl, ⟨by rw [e0, Bank.wrong_who (k := k) (by omega) (by omega)], rfl⟩, H30.sep.sub (List.nil_sublist _)⟩
          · skip
            refine wp_skip ?_
            refine inb_n ?_
            refine then_n ?_
            refine reg ?_
            refine plain (y_add rfl rfl rfl (by first | exact w64 (by omega) (by omega) | rfl)) rfl rfl rfl H28 ?_
            clear H28; intro a31 H31
            refine plain (y_move rfl rfl) rfl rfl rfl H31 ?_
            clear H31; intro a32 H32
            refine fin ?_
            refine then_n ?_
            refine ⟨k + 1, by omega, ⟨by omega, hfn.succ (by omega) (by assumption) (by assumption)⟩, H32.weak ⟨rfl, rfl, rfl, fi rfl (by omega), trivial⟩ rfl⟩
    · skip
      refine wp_exit ?_
      refine then_x ?_
      refine then_x ?_
      refine inb_hit ?_
      refine then_n ?_
      refine wp_seq ?_
      refine wp_seq ?_
      refine reg ?_
      refine plain (y_move rfl rfl) rfl rfl rfl H10 ?_
      clear H10; intro a33 H33
      refine plain (y_lss rfl rfl rfl) rfl rfl rfl H33 ?_
      clear H33; intro a34 H34
      refine plain (y_move rfl rfl) rfl rfl rfl H34 ?_
      clear H34; intro a35 H35
      refine part_d (d := 26) H35 rfl (fun hg36 => ?_) (fun hg36 => ?_)
      · first
        | fail
        | skip
          clear H35; intro H37
          refine skip rfl rfl rfl H37 ?_
          clear H37; intro a38 H38
          refine skip rfl rfl rfl H38 ?_
          clear H38; intro a39 H39
          refine plain (y_pick_t rfl rfl rfl) rfl rfl rfl H39 ?_
          clear H39; intro a40 H40
          refine fin ?_
          refine then_n ?_
          refine cnd_t H40 rfl ?_
          refine wp_seq ?_
          refine reg ?_
          refine plain (y_assign rfl rfl) rfl rfl rfl H40 ?_
          clear H40; intro a42 H42
          refine fin ?_
          refine then_n ?_
          refine wp_ret ?_
          refine then_r ?_
          -- return 4
          refine ret1 rfl H42 rfl ?_
          exact ⟨_, [], rfl, ⟨by rw [e0, Bank.wrong_amt (hfn.all (by omega)) (by omega)], rfl⟩, H42.sep.sub (List.nil_sublist _)⟩
      · first
        | fail
        | skip
          clear H35; intro H43
          refine plain (y_move rfl rfl) rfl rfl rfl H43 ?_
          clear H43; intro a44 H44
          refine plain (y_gtr rfl rfl rfl) rfl rfl rfl H44 ?_
          clear H44; intro a45 H45
          refine plain (y_pick_f rfl rfl rfl) rfl rfl rfl H45 ?_
          clear H45; intro a46 H46
          refine fin ?_
          refine then_n ?_
          refine cnd_d H46 rfl (fun hc47 => ?_) (fun hc47 => ?_) -- cond 6
          · skip
            refine wp_seq ?_
            refine reg ?_
            refine plain (y_assign rfl rfl) rfl rfl rfl H46 ?_
            clear H46; intro a48 H48
            refine fin ?_
            refine then_n ?_
            refine wp_ret ?_
            refine then_r ?_
            -- return 5
            refine ret1 rfl H48 rfl ?_
            exact ⟨_, [], rfl, ⟨by rw [e0, Bank.wrong_amt (hfn.all (by omega)) (by omega)], rfl⟩, H48.sep.sub (List.nil_sublist _)⟩
          · skip
            refine wp_skip ?_
            refine then_n ?_
            refine wp_seq ?_
            refine reg ?_
            refine plain (y_assign rfl rfl) rfl rfl rfl H46 ?_
            clear H46; intro a49 H49
            refine fin ?_
            refine then_n ?_
            refine wp_ret ?_
            -- return 6
            refine ret1 rfl H49 rfl ?_
            exact ⟨_, [], rfl, ⟨by rw [e0, Bank.wrong_ok (hfn.all (by omega)) (by omega)], rfl⟩, H49.sep.sub (List.nil_sublist _)⟩
set_option maxRecDepth 100000 in
set_option maxHeartbeats 2000000 in
theorem bput (b : Nat) (L : List Int) (hL : Bank.Ok L) (who amt : Int) {w : World} (hp : (It.blk b 114 (L.map i64)).P w) : Calls Tryd.prog 39 #[.pointer (some ⟨b, 0, none⟩), .int .i64 who, .int .i64 amt] w (Turns (.int .i64 (Bank.put L who amt).1) (It.blk b 114 (L.map i64)) (It.blk b 114 ((Bank.put L who amt).2.map i64)) w) := by
  refine enterL (args := [.pointer (some ⟨b, 0, none⟩), .int .i64 who, .int .i64 amt]) Tryd.func39 rfl rfl (l := [It.blk b 114 (L.map i64)]) (Sep.one hp) ?_
  intro a0 H0
  refine wp_seq ?_
  refine reg ?_
  refine plain (y_assign rfl rfl) rfl rfl rfl H0 ?_
  clear H0; intro a1 H1
  refine fin ?_
  refine then_n ?_
  refine wp_seq ?_
  refine wp_seq ?_
  refine reg ?_
  refine plain (y_move rfl rfl) rfl rfl rfl H1 ?_
  clear H1; intro a2 H2
  refine plain (y_move rfl rfl) rfl rfl rfl H2 ?_
  clear H2; intro a3 H3
  refine plain (y_move rfl rfl) rfl rfl rfl H3 ?_
  clear H3; intro a4 H4
  refine st_buildSlice1 (xs := [.tmp 10]) rfl Tryd.underlying23 z_size3 z_zero3 rfl rfl rfl rfl rfl rfl rfl rfl rfl H4 ?_
  clear H4; intro b5 a5 wx5 H5
  refine st_callg rfl z_call64 rfl rfl rfl rfl H5 (wrong_ (some ⟨b, 0, none⟩) false rfl amt [who] _ _ _ rfl (Rd.ofSep (rd_blkA (by repeat (first | exact Mh | apply Mt))) H5.sep) (by simp)) ?_
  clear H5; intro a6 wx6 H6
  refine plain (y_assign rfl rfl) rfl rfl rfl H6 ?_
  clear H6; intro a7 H7
  refine fin ?_
  refine then_n ?_
  refine wp_seq ?_
  refine reg ?_
  refine plain (y_move rfl rfl) rfl rfl rfl H7 ?_
  clear H7; intro a8 H8
  refine plain (y_neq rfl rfl rfl) rfl rfl rfl H8 ?_
  clear H8; intro a9 H9
  refine fin ?_
  refine then_n ?_
  refine cnd_d H9 rfl (fun hc10 => ?_) (fun hc10 => ?_) -- cond 1
  · skip
    refine wp_seq ?_
    refine reg ?_
    refine plain (y_move rfl rfl) rfl rfl rfl H9 ?_
    clear H9; intro a11 H11
    refine plain (y_assign rfl rfl) rfl rfl rfl H11 ?_
    clear H11; intro a12 H12
    refine fin ?_
    refine then_n ?_
    refine wp_ret ?_
    refine then_r ?_
    -- return 1
    refine ret1 rfl H12 rfl ?_
    rw [Bank.put_bad (by omega)]; exact Turns.ret (H12.sep.sub (List.Sublist.cons _ (List.Sublist.refl _)))
  · skip
    have hw0 : Bank.wrong false amt [who] = 0 := by omega
    have hw := Bank.wrong1 (amt := amt) (who := who) hw0
    have hlen := hL.len
    have hk := hL.all who.toNat
    refine wp_skip ?_
    refine then_n ?_
    refine wp_seq ?_
    refine wp_seq ?_
    refine reg ?_
    refine plain (y_move rfl rfl) rfl rfl rfl H9 ?_
    clear H9; intro a13 H13
    refine plain (y_move rfl rfl) rfl rfl rfl H13 ?_
    clear H13; intro a14 H14
    refine plain (y_move rfl rfl) rfl rfl rfl H14 ?_
    clear H14; intro a15 H15
    refine plain (y_nilCheck rfl rfl) rfl rfl rfl H15 ?_
    clear H15; intro a16 H16
    refine plain (y_fieldB rfl z_field114_0 rfl (by first | (simp only [Nat.zero_add, Nat.add_zero, Nat.reduceAdd]; rfl) | rfl)) rfl rfl rfl H16 ?_
    clear H16; intro a17 H17
    refine plain (y_ixA rfl Tryd.underlying112 z_size3 rfl rfl (by omega) (by omega) rfl) rfl rfl rfl H17 ?_
    clear H17; intro a18 H18
    refine plain (y_loadB rfl z_agg3 rfl (by repeat (first | exact Mh | apply Mt)) (i64_getI _ _ (by omega) (by omega))) rfl rfl rfl H18 ?_
    clear H18; intro a19 H19
    refine plain (y_sub rfl rfl rfl (by first | exact w64 (by omega) (by omega) | rfl)) rfl rfl rfl H19 ?_
    clear H19; intro a20 H20
    refine plain (y_gtr rfl rfl rfl) rfl rfl rfl H20 ?_
    clear H20; intro a21 H21
    refine fin ?_
    refine then_n ?_
    refine cnd_d H21 rfl (fun hc22 => ?_) (fun hc22 => ?_) -- cond 2
    · skip
      refine wp_seq ?_
      refine reg ?_
      refine plain (y_assign rfl rfl) rfl rfl rfl H21 ?_
      clear H21; intro a23 H23
      refine fin ?_
      refine then_n ?_
      refine wp_ret ?_
      refine then_r ?_
      -- return 2
      refine ret1 rfl H23 rfl ?_
      rw [Bank.put_big hw0 (by omega)]; exact Turns.ret (H23.sep.sub (List.Sublist.cons _ (List.Sublist.refl _)))
    · skip
      refine wp_skip ?_
      refine then_n ?_
      refine wp_seq ?_
      refine treg 11 (by kernel_rfl) (by kernel_rfl) H21 ?_
      clear H21; intro wx24 H24
      refine tplain (y_move rfl rfl) rfl rfl rfl H24 ?_
      clear H24; intro a25 H25
      refine tplain (y_move rfl rfl) rfl rfl rfl H25 ?_
      clear H25; intro a26 H26
      refine tplain (y_nilCheck rfl rfl) rfl rfl rfl H26 ?_
      clear H26; intro a27 H27
      refine tplain (y_fieldB rfl z_field114_0 rfl (by first | (simp only [Nat.zero_add, Nat.add_zero, Nat.reduceAdd]; rfl) | rfl)) rfl rfl rfl H27 ?_
      clear H27; intro a28 H28
      refine tplain (y_ixA rfl Tryd.underlying112 z_size3 rfl rfl (by omega) (by omega) rfl) rfl rfl rfl H28 ?_
      clear H28; intro a29 H29
      refine tplain (y_loadB rfl z_agg3 rfl (by repeat (first | exact Mh | apply Mt)) (i64_getI _ _ (by omega) (by omega))) rfl rfl rfl H29 ?_
      clear H29; intro a30 H30
      refine tplain (y_move rfl rfl) rfl rfl rfl H30 ?_
      clear H30; intro a31 H31
      refine tplain (y_add rfl rfl rfl (by first | exact w64 (by omega) (by omega) | rfl)) rfl rfl rfl H31 ?_
      clear H31; intro a32 H32
      refine tplain (y_nilCheck rfl rfl) rfl rfl rfl H32 ?_
      clear H32; intro a33 H33
      refine tplain (y_fieldB rfl z_field114_0 rfl (by first | (simp only [Nat.zero_add, Nat.add_zero, Nat.reduceAdd]; rfl) | rfl)) rfl rfl rfl H33 ?_
      clear H33; intro a34 H34
      refine tplain (y_ixA rfl Tryd.underlying112 z_size3 rfl rfl (by omega) (by omega) rfl) rfl rfl rfl H34 ?_
      clear H34; intro a35 H35
      refine tfin ?_
      refine st_store1 rfl z_size3 rfl rfl rfl (by repeat (first | exact Uh | apply Ut)) (by first | decide | (simp; omega)) rfl rfl H35 ?_
      clear H35; intro wx36 H36
      refine fin ?_
      refine then_n ?_
      refine wp_seq ?_
      refine reg ?_
      refine plain (y_assign rfl rfl) rfl rfl rfl H36 ?_
      clear H36; intro a37 H37
      refine fin ?_
      refine then_n ?_
      refine wp_ret ?_
      -- return 3
      refine ret1 rfl H37 rfl ?_
      rw [Bank.put_ok hw0 (by omega), ← i64_set]; exact Turns.ret (H37.sep.sub (List.Sublist.cons _ (List.Sublist.refl _)))
set_option maxRecDepth 100000 in
set_option maxHeartbeats 2000000 in
theorem btake (b : Nat) (L : List Int) (hL : Bank.Ok L) (who amt : Int) {w : World} (hp : (It.blk b 114 (L.map i64)).P w) : Calls Tryd.prog 62 #[.pointer (some ⟨b, 0, none⟩), .int .i64 who, .int .i64 amt] w (Turns (.int .i64 (Bank.take L who amt).1) (It.blk b 114 (L.map i64)) (It.blk b 114 ((Bank.take L who amt).2.map i64)) w) := by
  refine enterL (args := [.pointer (some ⟨b, 0, none⟩), .int .i64 who, .int .i64 amt]) Tryd.func62 rfl rfl (l := [It.blk b 114 (L.map i64)]) (Sep.one hp) ?_
  intro a0 H0
  refine wp_seq ?_
  refine reg ?_
  refine plain (y_assign rfl rfl) rfl rfl rfl H0 ?_
  clear H0; intro a1 H1
  refine fin ?_
  refine then_n ?_
  refine wp_seq ?_
  refine wp_seq ?_
  refine reg ?_
  refine plain (y_move rfl rfl) rfl rfl rfl H1 ?_
  clear H1; intro a2 H2
  refine plain (y_move rfl rfl) rfl rfl rfl H2 ?_
  clear H2; intro a3 H3
  refine plain (y_move rfl rfl) rfl rfl rfl H3 ?_
  clear H3; intro a4 H4
  refine st_buildSlice1 (xs := [.tmp 10]) rfl Tryd.underlying23 z_size3 z_zero3 rfl rfl rfl rfl rfl rfl rfl rfl rfl H4 ?_
  clear H4; intro b5 a5 wx5 H5
  refine st_callg rfl z_call64 rfl rfl rfl rfl H5 (wrong_ (some ⟨b, 0, none⟩) false rfl amt [who] _ _ _ rfl (Rd.ofSep (rd_blkA (by repeat (first | exact Mh | apply Mt))) H5.sep) (by simp)) ?_
  clear H5; intro a6 wx6 H6
  refine plain (y_assign rfl rfl) rfl rfl rfl H6 ?_
  clear H6; intro a7 H7
  refine fin ?_
  refine then_n ?_
  refine wp_seq ?_
  refine reg ?_
  refine plain (y_move rfl rfl) rfl rfl rfl H7 ?_
  clear H7; intro a8 H8
  refine plain (y_neq rfl rfl rfl) rfl rfl rfl H8 ?_
  clear H8; intro a9 H9
  refine fin ?_
  refine then_n ?_
  refine cnd_d H9 rfl (fun hc10 => ?_) (fun hc10 => ?_) -- cond 1
  · skip
    refine wp_seq ?_
    refine reg ?_
    refine plain (y_move rfl rfl) rfl rfl rfl H9 ?_
    clear H9; intro a11 H11
    refine plain (y_assign rfl rfl) rfl rfl rfl H11 ?_
    clear H11; intro a12 H12
    refine fin ?_
    refine then_n ?_
    refine wp_ret ?_
    refine then_r ?_
    -- return 1
    refine ret1 rfl H12 rfl ?_
    rw [Bank.take_bad (by omega)]; exact Turns.ret (H12.sep.sub (List.Sublist.cons _ (List.Sublist.refl _)))
  · skip
    have hw0 : Bank.wrong false amt [who] = 0 := by omega
    have hw := Bank.wrong1 (amt := amt) (who := who) hw0
    have hlen := hL.len
    have hk := hL.all who.toNat
    refine wp_skip ?_
    refine then_n ?_
    refine wp_seq ?_
    refine wp_seq ?_
    refine reg ?_
    refine plain (y_move rfl rfl) rfl rfl rfl H9 ?_
    clear H9; intro a13 H13
    refine plain (y_move rfl rfl) rfl rfl rfl H13 ?_
    clear H13; intro a14 H14
    refine plain (y_nilCheck rfl rfl) rfl rfl rfl H14 ?_
    clear H14; intro a15 H15
    refine plain (y_fieldB rfl z_field114_0 rfl (by first | (simp only [Nat.zero_add, Nat.add_zero, Nat.reduceAdd]; rfl) | rfl)) rfl rfl rfl H15 ?_
    clear H15; intro a16 H16
    refine plain (y_ixA rfl Tryd.underlying112 z_size3 rfl rfl (by omega) (by omega) rfl) rfl rfl rfl H16 ?_
    clear H16; intro a17 H17
    refine plain (y_loadB rfl z_agg3 rfl (by repeat (first | exact Mh | apply Mt)) (i64_getI _ _ (by omega) (by omega))) rfl rfl rfl H17 ?_
    clear H17; intro a18 H18
    refine plain (y_move rfl rfl) rfl rfl rfl H18 ?_
    clear H18; intro a19 H19
    refine plain (y_lss rfl rfl rfl) rfl rfl rfl H19 ?_
    clear H19; intro a20 H20
    refine fin ?_
    refine then_n ?_
    refine cnd_d H20 rfl (fun hc21 => ?_) (fun hc21 => ?_) -- cond 2
    · skip
      refine wp_seq ?_
      refine reg ?_
      refine plain (y_assign rfl rfl) rfl rfl rfl H20 ?_
      clear H20; intro a22 H22
      refine fin ?_
      refine then_n ?_
      refine wp_ret ?_
      refine then_r ?_
      -- return 2
      refine ret1 rfl H22 rfl ?_
      rw [Bank.take_few hw0 (by omega)]; exact Turns.ret (H22.sep.sub (List.Sublist.cons _ (List.Sublist.refl _)))
    · skip
      refine wp_skip ?_
      refine then_n ?_
      refine wp_seq ?_
      refine treg 11 (by kernel_rfl) (by kernel_rfl) H20 ?_
      clear H20; intro wx23 H23
      refine tplain (y_move rfl rfl) rfl rfl rfl H23 ?_
      clear H23; intro a24 H24
      refine tplain (y_move rfl rfl) rfl rfl rfl H24 ?_
      clear H24; intro a25 H25
      refine tplain (y_nilCheck rfl rfl) rfl rfl rfl H25 ?_
      clear H25; intro a26 H26
      refine tplain (y_fieldB rfl z_field114_0 rfl (by first | (simp only [Nat.zero_add, Nat.add_zero, Nat.reduceAdd]; rfl) | rfl)) rfl rfl rfl H26 ?_
      clear H26; intro a27 H27
      refine tplain (y_ixA rfl Tryd.underlying112 z_size3 rfl rfl (by omega) (by omega) rfl) rfl rfl rfl H27 ?_
      clear H27; intro a28 H28
      refine tplain (y_loadB rfl z_agg3 rfl (by repeat (first | exact Mh | apply Mt)) (i64_getI _ _ (by omega) (by omega))) rfl rfl rfl H28 ?_
      clear H28; intro a29 H29
      refine tplain (y_move rfl rfl) rfl rfl rfl H29 ?_
      clear H29; intro a30 H30
      refine tplain (y_sub rfl rfl rfl (by first | exact w64 (by omega) (by omega) | rfl)) rfl rfl rfl H30 ?_
      clear H30; intro a31 H31
      refine tplain (y_nilCheck rfl rfl) rfl rfl rfl H31 ?_
      clear H31; intro a32 H32
      refine tplain (y_fieldB rfl z_field114_0 rfl (by first | (simp only [Nat.zero_add, Nat.add_zero, Nat.reduceAdd]; rfl) | rfl)) rfl rfl rfl H32 ?_
      clear H32; intro a33 H33
      refine tplain (y_ixA rfl Tryd.underlying112 z_size3 rfl rfl (by omega) (by omega) rfl) rfl rfl rfl H33 ?_
      clear H33; intro a34 H34
      refine tfin ?_
      refine st_store1 rfl z_size3 rfl rfl rfl (by repeat (first | exact Uh | apply Ut)) (by first | decide | (simp; omega)) rfl rfl H34 ?_
      clear H34; intro wx35 H35
      refine fin ?_
      refine then_n ?_
      refine wp_seq ?_
      refine reg ?_
      refine plain (y_assign rfl rfl) rfl rfl rfl H35 ?_
      clear H35; intro a36 H36
      refine fin ?_
      refine then_n ?_
      refine wp_ret ?_
      -- return 3
      refine ret1 rfl H36 rfl ?_
      rw [Bank.take_ok hw0 (by omega), ← i64_set]; exact Turns.ret (H36.sep.sub (List.Sublist.cons _ (List.Sublist.refl _)))
set_option maxRecDepth 100000 in
set_option maxHeartbeats 1000000 in
theorem bnew (w : World) : Calls Tryd.prog 32 #[] w (Post [] w (fun u l => ∃ b, u = .pointer (some ⟨b, 0, none⟩) ∧ l = [It.blk b 114 ((List.replicate 64 (0 : Int)).map i64)])) := by
  refine enterL (args := []) Tryd.func32 rfl rfl (l := []) (Sep.refl _) ?_
  intro a0 H0
  refine wp_seq ?_
  refine reg ?_
  refine plain (y_assign rfl rfl) rfl rfl rfl H0 ?_
  clear H0; intro a1 H1
  refine fin ?_
  refine then_n ?_
  refine wp_seq ?_
  refine reg ?_
  refine plain (y_build rfl z_zero114 z_places114 rfl rfl) rfl rfl rfl H1 ?_
  clear H1; intro a2 H2
  refine st_box rfl rfl rfl rfl rfl rfl H2 ?_
  clear H2; intro b3 a3 wx3 H3
  refine plain (y_assign rfl rfl) rfl rfl rfl H3 ?_
  clear H3; intro a4 H4
  refine fin ?_
  refine then_n ?_
  refine wp_ret ?_
  -- return 1
  refine ret1 rfl H4 rfl ?_
  exact ⟨_, _, rfl, ⟨b3, rfl, by rw [← i64_zeros]; rfl⟩, H4.sep⟩
set_option maxRecDepth 100000 in
set_option maxHeartbeats 1000000 in
theorem ball0 (b : Nat) (L : List Int) (hL : Bank.Ok L)  {w : World} (hp : (It.blk b 114 (L.map i64)).P w) : Calls Tryd.prog 44 #[.pointer (some ⟨b, 0, none⟩)] w (Post [b] w (fun u l => ∃ l', l = l' ++ [It.blk b 114 (L.map i64)] ∧ l' = [It.row 3 1 u 64 (L.map i64)])) := by
  have hlen := hL.len
  refine enterL (args := [.pointer (some ⟨b, 0, none⟩)]) Tryd.func44 rfl rfl (l := [It.blk b 114 (L.map i64)]) (Sep.one hp) ?_
  intro a0 H0
  refine wp_seq ?_
  refine reg ?_
  refine plain (y_assign rfl rfl) rfl rfl rfl H0 ?_
  clear H0; intro a1 H1
  refine fin ?_
  refine then_n ?_
  refine wp_seq ?_
  refine wp_seq ?_
  refine reg ?_
  refine plain (y_move rfl rfl) rfl rfl rfl H1 ?_
  clear H1; intro a2 H2
  refine plain (y_peql rfl Tryd.underlying70 rfl rfl) rfl rfl rfl H2 ?_
  clear H2; intro a3 H3
  refine fin ?_
  refine then_n ?_
  refine cnd_f H3 rfl ?_
  refine wp_skip ?_
  refine then_n ?_
  refine wp_seq ?_
  refine reg ?_
  refine st_buildSlice1 (xs := []) rfl Tryd.underlying23 z_size3 z_zero3 rfl rfl rfl rfl rfl rfl rfl rfl rfl H3 ?_
  clear H3; intro b5 a5 wx5 H5
  refine plain (y_move rfl rfl) rfl rfl rfl H5 ?_
  clear H5; intro a6 H6
  refine plain (y_nilCheck rfl rfl) rfl rfl rfl H6 ?_
  clear H6; intro a7 H7
  refine plain (y_fieldB rfl z_field114_0 rfl (by first | (simp only [Nat.zero_add, Nat.add_zero, Nat.reduceAdd]; rfl) | rfl)) rfl rfl rfl H7 ?_
  clear H7; intro a8 H8
  refine plain (y_slA_all rfl Tryd.underlying112 z_size3 (by decide) rfl) rfl rfl rfl H8 ?_
  clear H8; intro a9 H9
  replace H9 := H9.asRow (size := 1) (m := 0) (by repeat (first | exact Uh | apply Ut)) rfl (by unfold maxLen; omega)
  refine st_append rfl z_slice23 z_notint23 rfl rfl (fun _ => (by repeat (first | exact Uh | apply Ut))) (fun w hs => Src.slice (m := 64) (rd_blkA (by repeat (first | exact Mh | apply Mt)) w hs) (by simp [hlen]) (by simp [i64, Value.oneCell'])) (by unfold maxLen; omega) (by omega) rfl rfl rfl H9 ?_
  clear H9; intro v10 a10 wx10 hnil10 H10
  refine plain (y_assign rfl rfl) rfl rfl rfl H10 ?_
  clear H10; intro a11 H11
  refine fin ?_
  refine then_n ?_
  refine wp_ret ?_
  -- return 1
  refine ret1 rfl H11 rfl ?_
  refine ⟨_, _, rfl, ⟨[It.row 3 1 v10 64 (L.map i64)], rfl, rfl⟩, ?_⟩
  have hz := H11.sep
  simp only [hlen, List.nil_append, Nat.zero_add] at hz
  exact hz
theorem ball (b : Nat) (L : List Int) (hL : Bank.Ok L)  {w : World} (hp : (It.blk b 114 (L.map i64)).P w) : Calls Tryd.prog 44 #[.pointer (some ⟨b, 0, none⟩)] w (Post [] w fun u l => l = [It.row 3 1 u 64 (L.map i64)]) := Post.still hp (ball0 b L hL hp)
set_option maxRecDepth 100000 in
set_option maxHeartbeats 1000000 in
theorem numbers (x y : List Int) (A B : Option Addr) (m m2 c c2 : Nat) (hm : m = x.length) (hm2 : m2 = y.length) {w : World} (hA : Rd w A (x.map i64)) (hB : Rd w B (y.map i64)) (hl : x.length ≤ 9223372036854775807) : Calls Tryd.prog 43 #[.slice A m c, .slice B m2 c2] w (Gives (.bool (decide (x = y))) [] w) := by
  subst hm hm2
  refine enterL (args := [.slice A x.length c, .slice B y.length c2]) Tryd.func43 rfl rfl (l := []) (Sep.refl _) ?_
  intro a0 H0
  refine wp_seq ?_
  refine reg ?_
  refine plain (y_assign rfl rfl) rfl rfl rfl H0 ?_
  clear H0; intro a1 H1
  refine fin ?_
  refine then_n ?_
  refine wp_seq ?_
  refine wp_seq ?_
  refine reg ?_
  refine plain (y_move rfl rfl) rfl rfl rfl H1 ?_
  clear H1; intro a2 H2
  refine plain (y_len rfl Tryd.underlying23 rfl) rfl rfl rfl H2 ?_
  clear H2; intro a3 H3
  refine plain (y_move rfl rfl) rfl rfl rfl H3 ?_
  clear H3; intro a4 H4
  refine plain (y_len rfl Tryd.underlying23 rfl) rfl rfl rfl H4 ?_
  clear H4; intro a5 H5
  refine plain (y_neq rfl rfl rfl) rfl rfl rfl H5 ?_
  clear H5; intro a6 H6
  refine fin ?_
  refine then_n ?_
  refine cnd_d H6 rfl (fun hc7 => ?_) (fun hc7 => ?_) -- cond 1
  · skip
    refine wp_seq ?_
    refine reg ?_
    refine plain (y_assign rfl rfl) rfl rfl rfl H6 ?_
    clear H6; intro a8 H8
    refine fin ?_
    refine then_n ?_
    refine wp_ret ?_
    refine then_r ?_
    -- return 1
    refine ret1 rfl H8 rfl ?_
    exact ⟨_, [], rfl, ⟨by rw [decide_eq_false (fun e => by subst e; omega)], rfl⟩, H8.sep.sub (List.nil_sublist _)⟩
  · skip
    refine wp_skip ?_
    refine then_n ?_
    refine wp_seq ?_
    refine wp_seq ?_
    refine reg ?_
    refine plain (y_assign rfl rfl) rfl rfl rfl H6 ?_
    clear H6; intro a9 H9
    refine fin ?_
    refine then_n ?_
    refine wp_block ?_
    have hlen : x.length = y.length := by omega
    refine loop (ι := Nat) (fun k => [(0, .slice A x.length c), (1, .slice B y.length c2), (5, .int .i64 (k : Int))]) (fun k => []) (fun k => k ≤ x.length ∧ x.take k = y.take k) (fun k => x.length - k) (0) (by simp) (H9.weak ⟨rfl, rfl, rfl, trivial⟩ rfl) ?_
    clear H9; intro k a10 wx10 hok10 H10
    have hok := hok10
    refine wp_seq ?_
    refine wp_seq ?_
    refine reg ?_
    refine plain (y_move rfl rfl) rfl rfl rfl H10 ?_
    clear H10; intro a11 H11
    refine plain (y_move rfl rfl) rfl rfl rfl H11 ?_
    clear H11; intro a12 H12
    refine plain (y_len rfl Tryd.underlying23 rfl) rfl rfl rfl H12 ?_
    clear H12; intro a13 H13
    refine plain (y_lss rfl rfl rfl) rfl rfl rfl H13 ?_
    clear H13; intro a14 H14
    refine fin ?_
    refine then_n ?_
    refine cnd_d H14 rfl (fun hc15 => ?_) (fun hc15 => ?_) -- cond 2
    · skip
      refine wp_skip ?_
      refine then_n ?_
      refine wp_seq ?_
      refine wp_block ?_
      refine wp_seq ?_
      refine qreg (by kernel_rfl) (by kernel_rfl) H14 ?_
      have F16 := H14.fr
      clear H14
      refine qplain (y_move rfl rfl) rfl rfl rfl F16 ?_
      clear F16; intro a17 H17
      refine qplain (y_move rfl rfl) rfl rfl rfl H17 ?_
      clear H17; intro a18 H18
      refine qplain (y_ixR rfl Tryd.underlying23 z_size3 rfl rfl (by omega) (by omega) (rd_old (by assumption) (by simp)) (by simp; omega)) rfl rfl rfl H18 ?_
      clear H18; intro a19 H19
      refine qplain (y_loadR rfl z_agg3 rfl (rd_old (by assumption) (by simp)) (by simp only [Int.toNat_natCast, Nat.mul_one, Nat.add_zero]; exact i64_get _ _ (by omega))) rfl rfl rfl H19 ?_
      clear H19; intro a20 H20
      refine qplain (y_move rfl rfl) rfl rfl rfl H20 ?_
      clear H20; intro a21 H21
      refine qplain (y_move rfl rfl) rfl rfl rfl H21 ?_
      clear H21; intro a22 H22
      refine qplain (y_ixR rfl Tryd.underlying23 z_size3 rfl rfl (by omega) (by omega) (rd_old (by assumption) (by simp)) (by simp; omega)) rfl rfl rfl H22 ?_
      clear H22; intro a23 H23
      refine qplain (y_loadR rfl z_agg3 rfl (rd_old (by assumption) (by simp)) (by simp only [Int.toNat_natCast, Nat.mul_one, Nat.add_zero]; exact i64_get _ _ (by omega))) rfl rfl rfl H23 ?_
      clear H23; intro a24 H24
      refine qplain (y_neq rfl rfl rfl) rfl rfl rfl H24 ?_
      clear H24; intro a25 H25
      refine qfin H25 ?_
      clear H25; intro wx26 H26
      refine then_n ?_
      refine cnd_d H26 rfl (fun hc27 => ?_) (fun hc27 => ?_) -- cond 3
      · skip
        refine wp_seq ?_
        refine reg ?_
        refine plain (y_assign rfl rfl) rfl rfl rfl H26 ?_
        clear H26; intro a28 H28
        refine fin ?_
        refine then_n ?_
        refine wp_ret ?_
        refine inb_r ?_
        refine then_r ?_
        refine then_r ?_
        refine inb_r ?_
        refine then_r ?_
        -- return 2
        refine ret1 rfl H28 rfl ?_
        exact ⟨_, [], rfl, ⟨by rw [decide_eq_false (Oct.getD_ne 0 (by assumption))], rfl⟩, H28.sep.sub (List.nil_sublist _)⟩
      · skip
        refine wp_skip ?_
        refine inb_n ?_
        refine then_n ?_
        refine reg ?_
        refine plain (y_move rfl rfl) rfl rfl rfl H26 ?_
        clear H26; intro a29 H29
        refine plain (y_add rfl rfl rfl (by first | exact w64 (by omega) (by omega) | rfl)) rfl rfl rfl H29 ?_
        clear H29; intro a30 H30
        refine plain (y_assign rfl rfl) rfl rfl rfl H30 ?_
        clear H30; intro a31 H31
        refine fin ?_
        refine then_n ?_
        refine ⟨k + 1, by omega, ⟨by omega, Oct.take_eq_succ 0 (by omega) (by omega) hok.2 (Decidable.not_not.1 (by assumption))⟩, H31.weak ⟨rfl, rfl, fi rfl (by omega), trivial⟩ rfl⟩
    · skip
      refine wp_exit ?_
      refine then_x ?_
      refine then_x ?_
      refine inb_hit ?_
      refine then_n ?_
      refine wp_seq ?_
      refine reg ?_
      refine plain (y_assign rfl rfl) rfl rfl rfl H14 ?_
      clear H14; intro a32 H32
      refine fin ?_
      refine then_n ?_
      refine wp_ret ?_
      -- return 3
      refine ret1 rfl H32 rfl ?_
      exact ⟨_, [], rfl, ⟨by rw [decide_eq_true (Oct.eq_of_take hlen (by omega) hok.2)], rfl⟩, H32.sep.sub (List.nil_sublist _)⟩

end Go.Proofs.YtaeahloenahelaaDoor.A_Bk1

set_option linter.unusedVariables false
set_option linter.unusedSimpArgs false
namespace Go.Proofs.YtaeahloenahelaaDoor.A_Bk2
open Go.Sx Go.RowKit

theorem z_slice23 : sliceB Tryd.prog 23 = some (3, 1, 8) := by kernel_rfl
theorem z_zval3 : (Tryd.prog.info? 3).bind (·.zero) = some (.int .i64 0) := by kernel_rfl
theorem z_zero90 : zeroL Tryd.prog 90 = some ([.slice none 0 0]) := by kernel_rfl
theorem z_places90 : placesB Tryd.prog 90 = some [(0, 1)] := by kernel_rfl
theorem z_call65 : callB Tryd.prog 65 = true := by kernel_rfl
theorem z_call66 : callB Tryd.prog 66 = true := by kernel_rfl
theorem z_field90_0 : fieldB Tryd.prog 90 0 = some 0 := by kernel_rfl
theorem z_agg23 : aggB Tryd.prog 23 = some false := by kernel_rfl
theorem z_size3 : sizeB Tryd.prog 3 = some 1 := by kernel_rfl
theorem z_agg3 : aggB Tryd.prog 3 = some false := by kernel_rfl

set_option maxRecDepth 100000 in
set_option maxHeartbeats 1000000 in
theorem rwho (n : Int) (w : World) : Calls Tryd.prog 65 #[.int .i64 n] w (Gives (.bool (decide (0 ≤ n ∧ n < 64))) [] w) := by
  refine enterL (args := [.int .i64 n]) Tryd.func65 rfl rfl (l := []) (Sep.refl _) ?_
  intro a0 H0
  refine wp_seq ?_
  refine reg ?_
  refine plain (y_assign rfl rfl) rfl rfl rfl H0 ?_
  clear H0; intro a1 H1
  refine fin ?_
  refine then_n ?_
  refine wp_seq ?_
  refine reg ?_
  refine plain (y_move rfl rfl) rfl rfl rfl H1 ?_
  clear H1; intro a2 H2
  refine plain (y_geq rfl rfl rfl) rfl rfl rfl H2 ?_
  clear H2; intro a3 H3
  refine plain (y_move rfl rfl) rfl rfl rfl H3 ?_
  clear H3; intro a4 H4
  refine part_d (d := 5) H4 rfl (fun hg5 => ?_) (fun hg5 => ?_)
  · first
    | fail
    | skip
      clear H4; intro H6
      refine plain (y_move rfl rfl) rfl rfl rfl H6 ?_
      clear H6; intro a7 H7
      refine plain (y_lss rfl rfl rfl) rfl rfl rfl H7 ?_
      clear H7; intro a8 H8
      refine plain (y_pick_t rfl rfl rfl) rfl rfl rfl H8 ?_
      clear H8; intro a9 H9
      refine plain (y_assign rfl rfl) rfl rfl rfl H9 ?_
      clear H9; intro a10 H10
      refine fin ?_
      refine then_n ?_
      refine wp_ret ?_
      -- return 1
      refine ret1 rfl H10 rfl ?_
      exact ⟨_, [], rfl, ⟨by rw [decide_eq_decide.2]; omega, rfl⟩, H10.sep.sub (List.nil_sublist _)⟩
  · first
    | fail
    | skip
      clear H4; intro H11
      refine skip rfl rfl rfl H11 ?_
      clear H11; intro a12 H12
      refine skip rfl rfl rfl H12 ?_
      clear H12; intro a13 H13
      refine plain (y_pick_f rfl rfl rfl) rfl rfl rfl H13 ?_
      clear H13; intro a14 H14
      refine plain (y_assign rfl rfl) rfl rfl rfl H14 ?_
      clear H14; intro a15 H15
      refine fin ?_
      refine then_n ?_
      refine wp_ret ?_
      -- return 2
      refine ret1 rfl H15 rfl ?_
      exact ⟨_, [], rfl, ⟨by rw [decide_eq_false (by omega)], rfl⟩, H15.sep.sub (List.nil_sublist _)⟩
set_option maxRecDepth 100000 in
set_option maxHeartbeats 1000000 in
theorem ramt (n : Int) (w : World) : Calls Tryd.prog 66 #[.int .i64 n] w (Gives (.bool (decide (0 ≤ n ∧ n ≤ 1099511627776))) [] w) := by
  refine enterL (args := [.int .i64 n]) Tryd.func66 rfl rfl (l := []) (Sep.refl _) ?_
  intro a0 H0
  refine wp_seq ?_
  refine reg ?_
  refine plain (y_assign rfl rfl) rfl rfl rfl H0 ?_
  clear H0; intro a1 H1
  refine fin ?_
  refine then_n ?_
  refine wp_seq ?_
  refine reg ?_
  refine plain (y_move rfl rfl) rfl rfl rfl H1 ?_
  clear H1; intro a2 H2
  refine plain (y_geq rfl rfl rfl) rfl rfl rfl H2 ?_
  clear H2; intro a3 H3
  refine plain (y_move rfl rfl) rfl rfl rfl H3 ?_
  clear H3; intro a4 H4
  refine part_d (d := 5) H4 rfl (fun hg5 => ?_) (fun hg5 => ?_)
  · first
    | fail
    | skip
      clear H4; intro H6
      refine plain (y_move rfl rfl) rfl rfl rfl H6 ?_
      clear H6; intro a7 H7
      refine plain (y_leq rfl rfl rfl) rfl rfl rfl H7 ?_
      clear H7; intro a8 H8
      refine plain (y_pick_t rfl rfl rfl) rfl rfl rfl H8 ?_
      clear H8; intro a9 H9
      refine plain (y_assign rfl rfl) rfl rfl rfl H9 ?_
      clear H9; intro a10 H10
      refine fin ?_
      refine then_n ?_
      refine wp_ret ?_
      -- return 1
      refine ret1 rfl H10 rfl ?_
      exact ⟨_, [], rfl, ⟨by rw [decide_eq_decide.2]; omega, rfl⟩, H10.sep.sub (List.nil_sublist _)⟩
  · first
    | fail
    | skip
      clear H4; intro H11
      refine skip rfl rfl rfl H11 ?_
      clear H11; intro a12 H12
      refine skip rfl rfl rfl H12 ?_
      clear H12; intro a13 H13
      refine plain (y_pick_f rfl rfl rfl) rfl rfl rfl H13 ?_
      clear H13; intro a14 H14
      refine plain (y_assign rfl rfl) rfl rfl rfl H14 ?_
      clear H14; intro a15 H15
      refine fin ?_
      refine then_n ?_
      refine wp_ret ?_
      -- return 2
      refine ret1 rfl H15 rfl ?_
      exact ⟨_, [], rfl, ⟨by rw [decide_eq_false (by omega)], rfl⟩, H15.sep.sub (List.nil_sublist _)⟩
set_option maxRecDepth 100000 in
set_option maxHeartbeats 1000000 in
theorem rnew (w : World) : Calls Tryd.prog 37 #[] w (Post [] w (fun u l => ∃ bx g, u = .pointer (some ⟨bx, 0, none⟩) ∧ l = [It.blk bx 90 [.slice (some ⟨g, 0, none⟩) 64 64], It.blk g 3 ((List.replicate 64 (0 : Int)).map i64)])) := by
  refine enterL (args := []) Tryd.func37 rfl rfl (l := []) (Sep.refl _) ?_
  intro a0 H0
  refine wp_seq ?_
  refine reg ?_
  refine plain (y_assign rfl rfl) rfl rfl rfl H0 ?_
  clear H0; intro a1 H1
  refine fin ?_
  refine then_n ?_
  refine wp_seq ?_
  refine reg ?_
  refine st_make rfl z_slice23 rfl rfl (by decide) (by decide) z_zval3 rfl rfl rfl H1 ?_
  clear H1; intro b2 a2 wx2 H2
  refine plain (y_build rfl z_zero90 z_places90 rfl rfl) rfl rfl rfl H2 ?_
  clear H2; intro a3 H3
  refine st_box rfl rfl rfl rfl rfl rfl H3 ?_
  clear H3; intro b4 a4 wx4 H4
  refine plain (y_assign rfl rfl) rfl rfl rfl H4 ?_
  clear H4; intro a5 H5
  refine fin ?_
  refine then_n ?_
  refine wp_ret ?_
  -- return 1
  refine ret1 rfl H5 rfl ?_
  exact ⟨_, _, rfl, ⟨b4, b2, rfl, by rw [made_i64]; rfl⟩, H5.sep⟩
set_option maxRecDepth 100000 in
set_option maxHeartbeats 2000000 in
theorem rput (bx g : Nat) (hne : bx ≠ g) (L : List Int) (hL : Bank.Ok L) (who amt : Int) {w : World} (hx : (It.blk bx 90 [.slice (some ⟨g, 0, none⟩) 64 64]).P w) (hp : (It.blk g 3 (L.map i64)).P w) : Calls Tryd.prog 40 #[.pointer (some ⟨bx, 0, none⟩), .int .i64 who, .int .i64 amt] w (Turns (.int .i64 (Bank.put L who amt).1) (It.blk g 3 (L.map i64)) (It.blk g 3 ((Bank.put L who amt).2.map i64)) w) := by
  have hlen := hL.len
  refine enterL (args := [.pointer (some ⟨bx, 0, none⟩), .int .i64 who, .int .i64 amt]) Tryd.func40 rfl rfl (l := [It.blk g 3 (L.map i64)]) (Sep.one hp) ?_
  intro a0 H0
  refine wp_seq ?_
  refine reg ?_
  refine plain (y_assign rfl rfl) rfl rfl rfl H0 ?_
  clear H0; intro a1 H1
  refine fin ?_
  refine then_n ?_
  refine wp_seq ?_
  refine wp_seq ?_
  refine reg ?_
  refine plain (y_move rfl rfl) rfl rfl rfl H1 ?_
  clear H1; intro a2 H2
  refine st_callg rfl z_call65 rfl rfl rfl rfl H2 (rwho _ _) ?_
  clear H2; intro a3 wx3 H3
  refine plain (y_not_d rfl rfl) rfl rfl rfl H3 ?_
  clear H3; intro a4 H4
  refine fin ?_
  refine then_n ?_
  refine cnd_d H4 rfl (fun hc5 => ?_) (fun hc5 => ?_) -- cond 1
  · skip
    refine wp_seq ?_
    refine reg ?_
    refine plain (y_assign rfl rfl) rfl rfl rfl H4 ?_
    clear H4; intro a6 H6
    refine fin ?_
    refine then_n ?_
    refine wp_ret ?_
    refine then_r ?_
    -- return 1
    refine ret1 rfl H6 rfl ?_
    rw [Bank.put_20 (by omega)]; exact Turns.ret H6.sep
  · skip
    refine wp_skip ?_
    refine then_n ?_
    refine wp_seq ?_
    refine wp_seq ?_
    refine reg ?_
    refine plain (y_move rfl rfl) rfl rfl rfl H4 ?_
    clear H4; intro a7 H7
    refine st_callg rfl z_call66 rfl rfl rfl rfl H7 (ramt _ _) ?_
    clear H7; intro a8 wx8 H8
    refine plain (y_not_d rfl rfl) rfl rfl rfl H8 ?_
    clear H8; intro a9 H9
    refine fin ?_
    refine then_n ?_
    refine cnd_d H9 rfl (fun hc10 => ?_) (fun hc10 => ?_) -- cond 2
    · skip
      refine wp_seq ?_
      refine reg ?_
      refine plain (y_assign rfl rfl) rfl rfl rfl H9 ?_
      clear H9; intro a11 H11
      refine fin ?_
      refine then_n ?_
      refine wp_ret ?_
      refine then_r ?_
      -- return 2
      refine ret1 rfl H11 rfl ?_
      rw [Bank.put_2 (by omega) (by omega)]; exact Turns.ret H11.sep
    · skip
      have hkk := hL.all who.toNat
      refine wp_skip ?_
      refine then_n ?_
      refine wp_seq ?_
      refine wp_seq ?_
      refine reg ?_
      refine plain (y_move rfl rfl) rfl rfl rfl H9 ?_
      clear H9; intro a12 H12
      refine plain (y_nilCheck rfl rfl) rfl rfl rfl H12 ?_
      clear H12; intro a13 H13
      refine plain (y_fieldB rfl z_field90_0 rfl (by first | (simp only [Nat.zero_add, Nat.add_zero, Nat.reduceAdd]; rfl) | rfl)) rfl rfl rfl H13 ?_
      clear H13; intro a14 H14
      refine plain (y_loadO rfl z_agg23 rfl (blk_cell hx rfl) (fun hmem => hne (List.mem_singleton.1 hmem))) rfl rfl rfl H14 ?_
      clear H14; intro a15 H15
      refine plain (y_move rfl rfl) rfl rfl rfl H15 ?_
      clear H15; intro a16 H16
      refine plain (y_ixL rfl Tryd.underlying23 z_size3 rfl rfl (by omega) (by omega) rfl) rfl rfl rfl H16 ?_
      clear H16; intro a17 H17
      refine plain (y_loadB rfl z_agg3 rfl (by repeat (first | exact Mh | apply Mt)) (i64_getI _ _ (by omega) (by omega))) rfl rfl rfl H17 ?_
      clear H17; intro a18 H18
      refine plain (y_move rfl rfl) rfl rfl rfl H18 ?_
      clear H18; intro a19 H19
      refine plain (y_add rfl rfl rfl (by first | exact w64 (by omega) (by omega) | rfl)) rfl rfl rfl H19 ?_
      clear H19; intro a20 H20
      refine plain (y_gtr rfl rfl rfl) rfl rfl rfl H20 ?_
      clear H20; intro a21 H21
      refine fin ?_
      refine then_n ?_
      refine cnd_d H21 rfl (fun hc22 => ?_) (fun hc22 => ?_) -- cond 3
      · skip
        refine wp_seq ?_
        refine reg ?_
        refine plain (y_assign rfl rfl) rfl rfl rfl H21 ?_
        clear H21; intro a23 H23
        refine fin ?_
        refine then_n ?_
        refine wp_ret ?_
        refine then_r ?_
        -- return 3
        refine ret1 rfl H23 rfl ?_
        rw [Bank.put_big (Bank.wrong1_ok (by omega) (by omega)) (by omega)]; exact Turns.ret H23.sep
      · skip
        refine wp_skip ?_
        refine then_n ?_
        refine wp_seq ?_
        refine treg 15 (by kernel_rfl) (by kernel_rfl) H21 ?_
        clear H21; intro wx24 H24
        refine tplain (y_move rfl rfl) rfl rfl rfl H24 ?_
        clear H24; intro a25 H25
        refine tplain (y_nilCheck rfl rfl) rfl rfl rfl H25 ?_
        clear H25; intro a26 H26
        refine tplain (y_fieldB rfl z_field90_0 rfl (by first | (simp only [Nat.zero_add, Nat.add_zero, Nat.reduceAdd]; rfl) | rfl)) rfl rfl rfl H26 ?_
        clear H26; intro a27 H27
        refine tplain (y_loadO rfl z_agg23 rfl (blk_cell hx rfl) (fun hmem => hne (List.mem_singleton.1 hmem))) rfl rfl rfl H27 ?_
        clear H27; intro a28 H28
        refine tplain (y_move rfl rfl) rfl rfl rfl H28 ?_
        clear H28; intro a29 H29
        refine tplain (y_move rfl rfl) rfl rfl rfl H29 ?_
        clear H29; intro a30 H30
        refine tplain (y_nilCheck rfl rfl) rfl rfl rfl H30 ?_
        clear H30; intro a31 H31
        refine tplain (y_fieldB rfl z_field90_0 rfl (by first | (simp only [Nat.zero_add, Nat.add_zero, Nat.reduceAdd]; rfl) | rfl)) rfl rfl rfl H31 ?_
        clear H31; intro a32 H32
        refine tplain (y_loadO rfl z_agg23 rfl (blk_cell hx rfl) (fun hmem => hne (List.mem_singleton.1 hmem))) rfl rfl rfl H32 ?_
        clear H32; intro a33 H33
        refine tplain (y_move rfl rfl) rfl rfl rfl H33 ?_
        clear H33; intro a34 H34
        refine tplain (y_ixL rfl Tryd.underlying23 z_size3 rfl rfl (by omega) (by omega) rfl) rfl rfl rfl H34 ?_
        clear H34; intro a35 H35
        refine tplain (y_loadB rfl z_agg3 rfl (by repeat (first | exact Mh | apply Mt)) (i64_getI _ _ (by omega) (by omega))) rfl rfl rfl H35 ?_
        clear H35; intro a36 H36
        refine tplain (y_move rfl rfl) rfl rfl rfl H36 ?_
        clear H36; intro a37 H37
        refine tplain (y_add rfl rfl rfl (by first | exact w64 (by omega) (by omega) | rfl)) rfl rfl rfl H37 ?_
        clear H37; intro a38 H38
        refine tplain (y_ixL rfl Tryd.underlying23 z_size3 rfl rfl (by omega) (by omega) rfl) rfl rfl rfl H38 ?_
        clear H38; intro a39 H39
        refine tfin ?_
        refine st_store1 rfl z_size3 rfl rfl rfl (by repeat (first | exact Uh | apply Ut)) (by first | decide | (simp; omega)) rfl rfl H39 ?_
        clear H39; intro wx40 H40
        refine fin ?_
        refine then_n ?_
        refine wp_seq ?_
        refine reg ?_
        refine plain (y_assign rfl rfl) rfl rfl rfl H40 ?_
        clear H40; intro a41 H41
        refine fin ?_
        refine then_n ?_
        refine wp_ret ?_
        -- return 4
        refine ret1 rfl H41 rfl ?_
        rw [Bank.put_ok (Bank.wrong1_ok (by omega) (by omega)) (by omega), ← i64_set]; exact Turns.ret H41.sep
set_option maxRecDepth 100000 in
set_option maxHeartbeats 2000000 in
theorem rtake (bx g : Nat) (hne : bx ≠ g) (L : List Int) (hL : Bank.Ok L) (who amt : Int) {w : World} (hx : (It.blk bx 90 [.slice (some ⟨g, 0, none⟩) 64 64]).P w) (hp : (It.blk g 3 (L.map i64)).P w) : Calls Tryd.prog 67 #[.pointer (some ⟨bx, 0, none⟩), .int .i64 who, .int .i64 amt] w (Turns (.int .i64 (Bank.take L who amt).1) (It.blk g 3 (L.map i64)) (It.blk g 3 ((Bank.take L who amt).2.map i64)) w) := by
  have hlen := hL.len
  refine enterL (args := [.pointer (some ⟨bx, 0, none⟩), .int .i64 who, .int .i64 amt]) Tryd.func67 rfl rfl (l := [It.blk g 3 (L.map i64)]) (Sep.one hp) ?_
  intro a0 H0
  refine wp_seq ?_
  refine reg ?_
  refine plain (y_assign rfl rfl) rfl rfl rfl H0 ?_
  clear H0; intro a1 H1
  refine fin ?_
  refine then_n ?_
  refine wp_seq ?_
  refine wp_seq ?_
  refine reg ?_
  refine plain (y_move rfl rfl) rfl rfl rfl H1 ?_
  clear H1; intro a2 H2
  refine st_callg rfl z_call65 rfl rfl rfl rfl H2 (rwho _ _) ?_
  clear H2; intro a3 wx3 H3
  refine plain (y_not_d rfl rfl) rfl rfl rfl H3 ?_
  clear H3; intro a4 H4
  refine fin ?_
  refine then_n ?_
  refine cnd_d H4 rfl (fun hc5 => ?_) (fun hc5 => ?_) -- cond 1
  · skip
    refine wp_seq ?_
    refine reg ?_
    refine plain (y_assign rfl rfl) rfl rfl rfl H4 ?_
    clear H4; intro a6 H6
    refine fin ?_
    refine then_n ?_
    refine wp_ret ?_
    refine then_r ?_
    -- return 1
    refine ret1 rfl H6 rfl ?_
    rw [Bank.take_20 (by omega)]; exact Turns.ret H6.sep
  · skip
    refine wp_skip ?_
    refine then_n ?_
    refine wp_seq ?_
    refine wp_seq ?_
    refine reg ?_
    refine plain (y_move rfl rfl) rfl rfl rfl H4 ?_
    clear H4; intro a7 H7
    refine st_callg rfl z_call66 rfl rfl rfl rfl H7 (ramt _ _) ?_
    clear H7; intro a8 wx8 H8
    refine plain (y_not_d rfl rfl) rfl rfl rfl H8 ?_
    clear H8; intro a9 H9
    refine fin ?_
    refine then_n ?_
    refine cnd_d H9 rfl (fun hc10 => ?_) (fun hc10 => ?_) -- cond 2
    · skip
      refine wp_seq ?_
      refine reg ?_
      refine plain (y_assign rfl rfl) rfl rfl rfl H9 ?_
      clear H9; intro a11 H11
      refine fin ?_
      refine then_n ?_
      refine wp_ret ?_
      refine then_r ?_
      -- return 2
      refine ret1 rfl H11 rfl ?_
      rw [Bank.take_2 (by omega) (by omega)]; exact Turns.ret H11.sep
    · skip
      have hkk := hL.all who.toNat
      refine wp_skip ?_
      refine then_n ?_
      refine wp_seq ?_
      refine wp_seq ?_
      refine reg ?_
      refine plain (y_move rfl rfl) rfl rfl rfl H9 ?_
      clear H9; intro a12 H12
      refine plain (y_nilCheck rfl rfl) rfl rfl rfl H12 ?_
      clear H12; intro a13 H13
      refine plain (y_fieldB rfl z_field90_0 rfl (by first | (simp only [Nat.zero_add, Nat.add_zero, Nat.reduceAdd]; rfl) | rfl)) rfl rfl rfl H13 ?_
      clear H13; intro a14 H14
      refine plain (y_loadO rfl z_agg23 rfl (blk_cell hx rfl) (fun hmem => hne (List.mem_singleton.1 hmem))) rfl rfl rfl H14 ?_
      clear H14; intro a15 H15
      refine plain (y_move rfl rfl) rfl rfl rfl H15 ?_
      clear H15; intro a16 H16
      refine plain (y_ixL rfl Tryd.underlying23 z_size3 rfl rfl (by omega) (by omega) rfl) rfl rfl rfl H16 ?_
      clear H16; intro a17 H17
      refine plain (y_loadB rfl z_agg3 rfl (by repeat (first | exact Mh | apply Mt)) (i64_getI _ _ (by omega) (by omega))) rfl rfl rfl H17 ?_
      clear H17; intro a18 H18
      refine plain (y_move rfl rfl) rfl rfl rfl H18 ?_
      clear H18; intro a19 H19
      refine plain (y_lss rfl rfl rfl) rfl rfl rfl H19 ?_
      clear H19; intro a20 H20
      refine fin ?_
      refine then_n ?_
      refine cnd_d H20 rfl (fun hc21 => ?_) (fun hc21 => ?_) -- cond 3
      · skip
        refine wp_seq ?_
        refine reg ?_
        refine plain (y_assign rfl rfl) rfl rfl rfl H20 ?_
        clear H20; intro a22 H22
        refine fin ?_
        refine then_n ?_
        refine wp_ret ?_
        refine then_r ?_
        -- return 3
        refine ret1 rfl H22 rfl ?_
        rw [Bank.take_few (Bank.wrong1_ok (by omega) (by omega)) (by omega)]; exact Turns.ret H22.sep
      · skip
        refine wp_skip ?_
        refine then_n ?_
        refine wp_seq ?_
        refine treg 15 (by kernel_rfl) (by kernel_rfl) H20 ?_
        clear H20; intro wx23 H23
        refine tplain (y_move rfl rfl) rfl rfl rfl H23 ?_
        clear H23; intro a24 H24
        refine tplain (y_nilCheck rfl rfl) rfl rfl rfl H24 ?_
        clear H24; intro a25 H25
        refine tplain (y_fieldB rfl z_field90_0 rfl (by first | (simp only [Nat.zero_add, Nat.add_zero, Nat.reduceAdd]; rfl) | rfl)) rfl rfl rfl H25 ?_
        clear H25; intro a26 H26
        refine tplain (y_loadO rfl z_agg23 rfl (blk_cell hx rfl) (fun hmem => hne (List.mem_singleton.1 hmem))) rfl rfl rfl H26 ?_
        clear H26; intro a27 H27
        refine tplain (y_move rfl rfl) rfl rfl rfl H27 ?_
        clear H27; intro a28 H28
        refine tplain (y_move rfl rfl) rfl rfl rfl H28 ?_
        clear H28; intro a29 H29
        refine tplain (y_nilCheck rfl rfl) rfl rfl rfl H29 ?_
        clear H29; intro a30 H30
        refine tplain (y_fieldB rfl z_field90_0 rfl (by first | (simp only [Nat.zero_add, Nat.add_zero, Nat.reduceAdd]; rfl) | rfl)) rfl rfl rfl H30 ?_
        clear H30; intro a31 H31
        refine tplain (y_loadO rfl z_agg23 rfl (blk_cell hx rfl) (fun hmem => hne (List.mem_singleton.1 hmem))) rfl rfl rfl H31 ?_
        clear H31; intro a32 H32
        refine tplain (y_move rfl rfl) rfl rfl rfl H32 ?_
        clear H32; intro a33 H33
        refine tplain (y_ixL rfl Tryd.underlying23 z_size3 rfl rfl (by omega) (by omega) rfl) rfl rfl rfl H33 ?_
        clear H33; intro a34 H34
        refine tplain (y_loadB rfl z_agg3 rfl (by repeat (first | exact Mh | apply Mt)) (i64_getI _ _ (by omega) (by omega))) rfl rfl rfl H34 ?_
        clear H34; intro a35 H35
        refine tplain (y_move rfl rfl) rfl rfl rfl H35 ?_
        clear H35; intro a36 H36
        refine tplain (y_sub rfl rfl rfl (by first | exact w64 (by omega) (by omega) | rfl)) rfl rfl rfl H36 ?_
        clear H36; intro a37 H37
        refine tplain (y_ixL rfl Tryd.underlying23 z_size3 rfl rfl (by omega) (by omega) rfl) rfl rfl rfl H37 ?_
        clear H37; intro a38 H38
        refine tfin ?_
        refine st_store1 rfl z_size3 rfl rfl rfl (by repeat (first | exact Uh | apply Ut)) (by first | decide | (simp; omega)) rfl rfl H38 ?_
        clear H38; intro wx39 H39
        refine fin ?_
        refine then_n ?_
        refine wp_seq ?_
        refine reg ?_
        refine plain (y_assign rfl rfl) rfl rfl rfl H39 ?_
        clear H39; intro a40 H40
        refine fin ?_
        refine then_n ?_
        refine wp_ret ?_
        -- return 4
        refine ret1 rfl H40 rfl ?_
        rw [Bank.take_ok (Bank.wrong1_ok (by omega) (by omega)) (by omega), ← i64_set]; exact Turns.ret H40.sep

end Go.Proofs.YtaeahloenahelaaDoor.A_Bk2

set_option linter.unusedVariables false
set_option linter.unusedSimpArgs false
namespace Go.Proofs.YtaeahloenahelaaDoor.A_Bo1
open Go.Sx Go.RowKit Go.Proofs.YtaeahloenahelaaDoor.A_Block Go.Proofs.YtaeahloenahelaaDoor.A_Sum Go.Proofs.YtaeahloenahelaaDoor.A_Ref Go.Proofs.YtaeahloenahelaaDoor.A_RSum Go.Proofs.YtaeahloenahelaaDoor.A_Leaf Go.Proofs.YtaeahloenahelaaDoor.A_Num Go.Proofs.YtaeahloenahelaaDoor.A_Key Go.Proofs.YtaeahloenahelaaDoor.A_Ref Go.Proofs.YtaeahloenahelaaDoor.A_RSum Go.Proofs.YtaeahloenahelaaDoor.A_Tag Go.Proofs.YtaeahloenahelaaDoor.A_Lay Go.Proofs.YtaeahloenahelaaDoor.A_Eq Go.Proofs.YtaeahloenahelaaDoor.A_Ref0 Go.Proofs.YtaeahloenahelaaDoor.A_Sign Go.Proofs.YtaeahloenahelaaDoor.A_RefB

theorem z_zeroN111 : zeroL Tryd.prog 111 = some ((.int .i64 0 :: (.map none :: []))) := by kernel_rfl
theorem z_places111 : placesB Tryd.prog 111 = some [(0, 1), (1, 1)] := by kernel_rfl
theorem q_len_c2 {a0 a1 : Value} : (a0 :: a1 :: []).length = 2 := (len_c (n := 1) (len_c (n := 0) len_n))
theorem q_spl_c2_0_c1 {a0 a1 : Value} {b0 : Value} : spl (a0 :: a1 :: []) 0 (b0 :: []) = b0 :: a1 :: [] := spl_0
theorem q_spl_c2_1_c1 {a0 a1 : Value} {b0 : Value} : spl (a0 :: a1 :: []) 1 (b0 :: []) = a0 :: b0 :: [] := (spl_c (o := 0) spl_0)
theorem z_agg30 : aggB Tryd.prog 30 = some true := by kernel_rfl
theorem z_size30 : sizeB Tryd.prog 30 = some 36 := by kernel_rfl
theorem q_ld_c4b32_0_36 {a0 a1 a2 a3 : Value} {t4 : List UInt8} (h4 : t4.length = 32) : ((a0 :: a1 :: a2 :: a3 :: t4.map u8).drop 0).take 36 = a0 :: a1 :: a2 :: a3 :: t4.map u8 := (ld_a (len_c (n := 35) (len_c (n := 34) (len_c (n := 33) (len_c (n := 32) (len_e (k := 32) h4))))))
theorem q_len_c4b32 {a0 a1 a2 a3 : Value} {t4 : List UInt8} (h4 : t4.length = 32) : (a0 :: a1 :: a2 :: a3 :: t4.map u8).length = 36 := (len_c (n := 35) (len_c (n := 34) (len_c (n := 33) (len_c (n := 32) (len_e (k := 32) h4)))))
theorem z_call63 : callB Tryd.prog 63 = true := by kernel_rfl
theorem z_field111_1 : fieldB Tryd.prog 111 1 = some 1 := by kernel_rfl
theorem z_agg109 : aggB Tryd.prog 109 = some false := by kernel_rfl
theorem q_ix_c2_1 {a0 a1 : Value} : (a0 :: a1 :: [])[1]? = some a1 := (ix_c (o := 0) ix_0)
theorem z_field30_0 : fieldB Tryd.prog 30 0 = some 0 := by kernel_rfl
theorem z_agg3 : aggB Tryd.prog 3 = some false := by kernel_rfl
theorem q_ix_c4b32_0 {a0 a1 a2 a3 : Value} {t4 : List UInt8} : (a0 :: a1 :: a2 :: a3 :: t4.map u8)[0]? = some a0 := ix_0
theorem z_zval22 : (Tryd.prog.info? 22).bind (·.zero) = some (.slice none 0 0) := by kernel_rfl
theorem z_field30_2 : fieldB Tryd.prog 30 2 = some 2 := by kernel_rfl
theorem q_ix_c4b32_2 {a0 a1 a2 a3 : Value} {t4 : List UInt8} : (a0 :: a1 :: a2 :: a3 :: t4.map u8)[2]? = some a2 := (ix_c (o := 1) (ix_c (o := 0) ix_0))
theorem z_field111_0 : fieldB Tryd.prog 111 0 = some 0 := by kernel_rfl
theorem q_ix_c2_0 {a0 a1 : Value} : (a0 :: a1 :: [])[0]? = some a0 := ix_0
theorem z_zeroN30 : zeroL Tryd.prog 30 = some ((.int .i64 0 :: (.int .i64 0 :: (.int .i64 0 :: (.int .i64 0 :: (List.replicate 32 (0 : UInt8)).map u8))))) := by kernel_rfl
theorem q_one_c4b32 {a0 a1 a2 a3 : Value} {t4 : List UInt8} (o0 : a0.oneCell' = true) (o1 : a1.oneCell' = true) (o2 : a2.oneCell' = true) (o3 : a3.oneCell' = true) : (a0 :: a1 :: a2 :: a3 :: t4.map u8).all (·.oneCell') = true := (one_c o0 (one_c o1 (one_c o2 (one_c o3 (one_u8 _)))))
theorem q_spl_c4b32_0_c4b32 {a0 a1 a2 a3 : Value} {t4 : List UInt8} {b0 b1 b2 b3 : Value} {s4 : List UInt8} (h4 : t4.length = 32) (g4 : s4.length = 32) : spl (a0 :: a1 :: a2 :: a3 :: t4.map u8) 0 (b0 :: b1 :: b2 :: b3 :: s4.map u8) = b0 :: b1 :: b2 :: b3 :: s4.map u8 := (spl_a (z := 36) (len_c (n := 35) (len_c (n := 34) (len_c (n := 33) (len_c (n := 32) (len_e (k := 32) h4))))) (len_c (n := 35) (len_c (n := 34) (len_c (n := 33) (len_c (n := 32) (len_e (k := 32) g4))))))
theorem z_field30_1 : fieldB Tryd.prog 30 1 = some 1 := by kernel_rfl
theorem q_ix_c4b32_1 {a0 a1 a2 a3 : Value} {t4 : List UInt8} : (a0 :: a1 :: a2 :: a3 :: t4.map u8)[1]? = some a1 := (ix_c (o := 0) ix_0)
theorem z_zero30 : zeroL Tryd.prog 30 = some ([.int .i64 0, .int .i64 0, .int .i64 0, .int .i64 0, .int .u8 0, .int .u8 0, .int .u8 0, .int .u8 0, .int .u8 0, .int .u8 0, .int .u8 0, .int .u8 0, .int .u8 0, .int .u8 0, .int .u8 0, .int .u8 0, .int .u8 0, .int .u8 0, .int .u8 0, .int .u8 0, .int .u8 0, .int .u8 0, .int .u8 0, .int .u8 0, .int .u8 0, .int .u8 0, .int .u8 0, .int .u8 0, .int .u8 0, .int .u8 0, .int .u8 0, .int .u8 0, .int .u8 0, .int .u8 0, .int .u8 0, .int .u8 0]) := by kernel_rfl
theorem z_slice22 : sliceB Tryd.prog 22 = some (30, 36, 64) := by kernel_rfl
theorem z_notint22 : notIntB Tryd.prog 22 = true := by kernel_rfl

set_option maxRecDepth 100000 in
set_option maxHeartbeats 1000000 in
theorem anew (floor : Int) (h1 : 0 ≤ floor ∧ floor ≤ 1099511627776) (w : World) : Calls Tryd.prog 33 #[.int .i64 floor] w (Post [] w fun v l' => ∃ b h, v = .tuple #[.pointer (some ⟨b, 0, none⟩), .int .i64 0] ∧ l' = [It.blk b 111 [i64 floor, .map (some h)], It.mp h (fun _ => none)]) := by
  have lz32 : (List.replicate 32 (0 : UInt8)).length = 32 := List.length_replicate
  refine enterL (args := [.int .i64 floor]) Tryd.func33 rfl rfl (l := []) (Sep.refl _) ?_
  intro a0 H0
  refine wp_seq ?_
  refine reg ?_
  refine plain (y_assign rfl rfl) rfl rfl rfl H0 ?_
  clear H0; intro a1 H1
  refine plain (y_assign rfl rfl) rfl rfl rfl H1 ?_
  clear H1; intro a2 H2
  refine fin ?_
  refine then_n ?_
  refine wp_seq ?_
  refine wp_seq ?_
  refine reg ?_
  refine plain (y_move rfl rfl) rfl rfl rfl H2 ?_
  clear H2; intro a3 H3
  refine plain (y_lss rfl rfl rfl) rfl rfl rfl H3 ?_
  clear H3; intro a4 H4
  refine plain (y_move rfl rfl) rfl rfl rfl H4 ?_
  clear H4; intro a5 H5
  have H7 := H5.know (d := 6) (v := .bool false) rfl (congrArg Value.bool (decide_eq_false (by omega)))
  clear H5
  refine plain (y_move rfl rfl) rfl rfl rfl H7 ?_
  clear H7; intro a8 H8
  refine plain (y_gtr rfl rfl rfl) rfl rfl rfl H8 ?_
  clear H8; intro a9 H9
  refine plain (y_pick_f rfl rfl rfl) rfl rfl rfl H9 ?_
  clear H9; intro a10 H10
  refine fin ?_
  refine then_n ?_
  refine cnd H10 rfl (fun hc11 => ?_) (fun hc11 => ?_) -- cond 1
  · (try simp only [decide_eq_true_eq, decide_eq_false_iff_not, Bool.not_eq_true', Bool.not_eq_false', Bool.and_eq_true, Bool.not_eq_true, Bool.not_eq_false] at hc11); (exfalso; omega)
  · skip
    try simp only [decide_eq_true_eq, decide_eq_false_iff_not, Bool.not_eq_true', Bool.not_eq_false', Bool.and_eq_true, Bool.not_eq_true, Bool.not_eq_false] at hc11
    refine wp_skip ?_
    refine then_n ?_
    refine wp_seq ?_
    refine reg ?_
    refine plain (y_move rfl rfl) rfl rfl rfl H10 ?_
    clear H10; intro a12 H12
    refine st_makeMap rfl rfl rfl rfl H12 ?_
    clear H12; intro b13 a13 wx13 H13
    refine plain (y_build rfl z_zeroN111 z_places111 rfl (lay_1 (off := 0) (n := 2) rfl q_len_c2 (by decide) q_spl_c2_0_c1 (lay_1 (off := 1) (n := 2) rfl q_len_c2 (by decide) q_spl_c2_1_c1 lay_n (by rfl)) (by rfl))) rfl rfl rfl H13 ?_
    clear H13; intro a14 H14
    refine st_box rfl rfl (agg_cells _) rfl rfl rfl H14 ?_
    clear H14; intro b15 a15 wx15 H15
    refine plain (y_assign rfl rfl) rfl rfl rfl H15 ?_
    clear H15; intro a16 H16
    refine plain (y_assign rfl rfl) rfl rfl rfl H16 ?_
    clear H16; intro a17 H17
    refine fin ?_
    refine then_n ?_
    refine wp_ret ?_
    -- return 1
    refine ret2 rfl H17 rfl rfl ?_
    first | (exfalso; omega) | (exact ⟨_, _, rfl, ⟨b15, b13, rfl, rfl⟩, H17.sep⟩)
set_option maxRecDepth 100000 in
set_option maxHeartbeats 1000000 in
theorem anewBad (floor : Int) (h1 : ¬ (0 ≤ floor ∧ floor ≤ 1099511627776)) (w : World) : Calls Tryd.prog 33 #[.int .i64 floor] w (Gives (.tuple #[.pointer none, .int .i64 2]) [] w) := by
  have lz32 : (List.replicate 32 (0 : UInt8)).length = 32 := List.length_replicate
  refine enterL (args := [.int .i64 floor]) Tryd.func33 rfl rfl (l := []) (Sep.refl _) ?_
  intro a0 H0
  refine wp_seq ?_
  refine reg ?_
  refine plain (y_assign rfl rfl) rfl rfl rfl H0 ?_
  clear H0; intro a1 H1
  refine plain (y_assign rfl rfl) rfl rfl rfl H1 ?_
  clear H1; intro a2 H2
  refine fin ?_
  refine then_n ?_
  refine wp_seq ?_
  refine wp_seq ?_
  refine reg ?_
  refine plain (y_move rfl rfl) rfl rfl rfl H2 ?_
  clear H2; intro a3 H3
  refine plain (y_lss rfl rfl rfl) rfl rfl rfl H3 ?_
  clear H3; intro a4 H4
  refine plain (y_move rfl rfl) rfl rfl rfl H4 ?_
  clear H4; intro a5 H5
  refine Sx.part (d := 6) H5 rfl (fun hg6 => ?_) (fun hg6 => ?_)
  · first
    | fail
    | skip
      clear H5; intro H7
      try simp only [decide_eq_true_eq, decide_eq_false_iff_not, Bool.not_eq_true', Bool.not_eq_false', Bool.and_eq_true, Bool.not_eq_true, Bool.not_eq_false] at hg6
      refine skip rfl rfl rfl H7 ?_
      clear H7; intro a8 H8
      refine skip rfl rfl rfl H8 ?_
      clear H8; intro a9 H9
      refine plain (y_pick_t rfl rfl rfl) rfl rfl rfl H9 ?_
      clear H9; intro a10 H10
      refine fin ?_
      refine then_n ?_
      refine cnd_t H10 rfl ?_
      refine wp_seq ?_
      refine reg ?_
      refine plain (y_assign rfl rfl) rfl rfl rfl H10 ?_
      clear H10; intro a12 H12
      refine plain (y_assign rfl rfl) rfl rfl rfl H12 ?_
      clear H12; intro a13 H13
      refine fin ?_
      refine then_n ?_
      refine wp_ret ?_
      refine then_r ?_
      -- return 1
      refine ret2 rfl H13 rfl rfl ?_
      exact ⟨_, [], rfl, ⟨rfl, rfl⟩, H13.sep.sub (List.nil_sublist _)⟩
  · first
    | fail
    | skip
      clear H5; intro H14
      try simp only [decide_eq_true_eq, decide_eq_false_iff_not, Bool.not_eq_true', Bool.not_eq_false', Bool.and_eq_true, Bool.not_eq_true, Bool.not_eq_false] at hg6
      refine plain (y_move rfl rfl) rfl rfl rfl H14 ?_
      clear H14; intro a15 H15
      refine plain (y_gtr rfl rfl rfl) rfl rfl rfl H15 ?_
      clear H15; intro a16 H16
      refine plain (y_pick_f rfl rfl rfl) rfl rfl rfl H16 ?_
      clear H16; intro a17 H17
      refine fin ?_
      refine then_n ?_
      refine cnd H17 rfl (fun hc18 => ?_) (fun hc18 => ?_) -- cond 2
      · skip
        try simp only [decide_eq_true_eq, decide_eq_false_iff_not, Bool.not_eq_true', Bool.not_eq_false', Bool.and_eq_true, Bool.not_eq_true, Bool.not_eq_false] at hc18
        refine wp_seq ?_
        refine reg ?_
        refine plain (y_assign rfl rfl) rfl rfl rfl H17 ?_
        clear H17; intro a19 H19
        refine plain (y_assign rfl rfl) rfl rfl rfl H19 ?_
        clear H19; intro a20 H20
        refine fin ?_
        refine then_n ?_
        refine wp_ret ?_
        refine then_r ?_
        -- return 2
        refine ret2 rfl H20 rfl rfl ?_
        exact ⟨_, [], rfl, ⟨rfl, rfl⟩, H20.sep.sub (List.nil_sublist _)⟩
      · (try simp only [decide_eq_true_eq, decide_eq_false_iff_not, Bool.not_eq_true', Bool.not_eq_false', Bool.and_eq_true, Bool.not_eq_true, Bool.not_eq_false] at hc18); (exfalso; omega)
set_option maxRecDepth 100000 in
set_option maxHeartbeats 4000000 in
theorem abid (floor : Int) (xs : List Note.Bid) (hx : Auction.Wfb xs) (hxl : xs.length ≤ 1000) (f : Int → Option Value) (v : Value) (b h : Nat) (x : Note.Bid) (wx : Note.Bid.Wf x) (now : Int) (hv : (f x.round).getD (.slice none 0 0 : Value) = v) {w : World} (hs : Sep (fps [It.blk b 111 [i64 floor, .map (some h)], It.mp h f, It.row 30 36 v xs.length (Auction.bdc xs)]) w w [It.blk b 111 [i64 floor, .map (some h)], It.mp h f, It.row 30 36 v xs.length (Auction.bdc xs)]) (hG : Glob 0 Sha.K w) (hz : 0 ∉ fps [It.blk b 111 [i64 floor, .map (some h)], It.mp h f, It.row 30 36 v xs.length (Auction.bdc xs)]) : Calls Tryd.prog 34 #[.pointer (some ⟨b, 0, none⟩), .agg (Note.Bid.cells x).toArray, .int .i64 now] w (Post (fps [It.blk b 111 [i64 floor, .map (some h)], It.mp h f, It.row 30 36 v xs.length (Auction.bdc xs)]) w fun u l' => u = .int .i64 (Auction.bidE floor xs x now) ∧ ∃ (f' : Int → Option Value) (v' : Value), (f' x.round).getD (.slice none 0 0 : Value) = v' ∧ (∀ q, q ≠ x.round → f' q = f q) ∧ l' = [It.blk b 111 [i64 floor, .map (some h)], It.mp h f', It.row 30 36 v' (Auction.bidL floor xs x now).length (Auction.bdc (Auction.bidL floor xs x now))]) := by
  obtain ⟨A, cc, rfl, hRx, hmx⟩ := row_shape (v := v) hs (by repeat (first | exact Mh | apply Mt))
  have hcap := row_cap (A := A) (c := cc) hs (by repeat (first | exact Mh | apply Mt))
  have htx := wx.tag
  have lz32 : (List.replicate 32 (0 : UInt8)).length = 32 := List.length_replicate
  have lz0 := wx.tag
  refine enterL (args := [.pointer (some ⟨b, 0, none⟩), .agg (Note.Bid.cells x).toArray, .int .i64 now]) Tryd.func34 rfl rfl (l := [It.blk b 111 [i64 floor, .map (some h)], It.mp h f, It.row 30 36 (.slice A xs.length cc) xs.length (Auction.bdc xs)]) hs ?_
  intro a0 H0
  refine wp_seq ?_
  refine reg ?_
  refine st_box rfl rfl (agg_cells _) rfl rfl rfl H0 ?_
  clear H0; intro b1 a1 wx1 H1
  refine plain (y_assign rfl rfl) rfl rfl rfl H1 ?_
  clear H1; intro a2 H2
  refine fin ?_
  refine then_n ?_
  refine wp_seq ?_
  refine wp_seq ?_
  refine reg ?_
  refine plain (y_move rfl rfl) rfl rfl rfl H2 ?_
  clear H2; intro a3 H3
  refine plain (y_peql rfl Tryd.underlying68 rfl rfl) rfl rfl rfl H3 ?_
  clear H3; intro a4 H4
  refine fin ?_
  refine then_n ?_
  refine cnd_f H4 rfl ?_
  refine wp_skip ?_
  refine then_n ?_
  refine wp_seq ?_
  refine wp_seq ?_
  refine reg ?_
  refine plain (y_loadAB rfl z_agg30 z_size30 rfl (by repeat (first | exact Mh | apply Mt)) (q_ld_c4b32_0_36 (by assumption)) (q_len_c4b32 (by assumption))) rfl rfl rfl H4 ?_
  clear H4; intro a6 H6
  refine st_callg rfl z_call63 rfl rfl rfl rfl H6 (ncheck x wx (hG.frm H6.sep.frm hz)) ?_
  clear H6; intro a7 wx7 H7
  refine plain (y_assign rfl rfl) rfl rfl rfl H7 ?_
  clear H7; intro a8 H8
  refine fin ?_
  refine then_n ?_
  refine wp_seq ?_
  refine reg ?_
  refine plain (y_move rfl rfl) rfl rfl rfl H8 ?_
  clear H8; intro a9 H9
  refine plain (y_neq rfl rfl rfl) rfl rfl rfl H9 ?_
  clear H9; intro a10 H10
  refine fin ?_
  refine then_n ?_
  refine cnd H10 rfl (fun hc11 => ?_) (fun hc11 => ?_) -- cond 2
  · skip
    try simp only [decide_eq_true_eq, decide_eq_false_iff_not, Bool.not_eq_true', Bool.not_eq_false', Bool.and_eq_true, Bool.not_eq_true, Bool.not_eq_false] at hc11
    have hc1 := hc11
    refine wp_seq ?_
    refine reg ?_
    refine plain (y_move rfl rfl) rfl rfl rfl H10 ?_
    clear H10; intro a12 H12
    refine plain (y_assign rfl rfl) rfl rfl rfl H12 ?_
    clear H12; intro a13 H13
    refine fin ?_
    refine then_n ?_
    refine wp_ret ?_
    refine then_r ?_
    -- return 1
    refine ret1 rfl H13 rfl ?_
    first | (have hz := Auction.e_chk (floor := floor) (xs := xs) (now := now) hc1; rw [hz.1, hz.2]; exact ⟨_, _, rfl, ⟨rfl, f, (.slice A xs.length cc), hv, fun _ _ => rfl, rfl⟩, H13.sep.sub (by repeat (first | exact S1 | exact S0 | apply S2 | apply S3))⟩) | (have hz := Auction.e_late (floor := floor) (xs := xs) hc2 hl1; rw [hz.1, hz.2]; exact ⟨_, _, rfl, ⟨rfl, f, (.slice A xs.length cc), hv, fun _ _ => rfl, rfl⟩, H13.sep.sub (by repeat (first | exact S1 | exact S0 | apply S2 | apply S3))⟩) | (have hz := Auction.e_fee (floor := floor) (xs := xs) hc2 hl2 hf1; rw [hz.1, hz.2]; exact ⟨_, _, rfl, ⟨rfl, f, (.slice A xs.length cc), hv, fun _ _ => rfl, rfl⟩, H13.sep.sub (by repeat (first | exact S1 | exact S0 | apply S2 | apply S3))⟩) | (have hz := Auction.e_twice (floor := floor) (xs := xs) hc2 hl2 hf2 (Auction.not_fresh hkl ht1); rw [hz.1, hz.2]; exact ⟨_, _, rfl, ⟨rfl, f, (.slice A xs.length cc), hv, fun _ _ => rfl, rfl⟩, H13.sep.sub (by repeat (first | exact S1 | exact S0 | apply S2 | apply S3))⟩) | (have hz := Auction.e_full (floor := floor) hc2 hl2 hf2 hfr (by omega); rw [hz.1, hz.2]; exact ⟨_, _, rfl, ⟨rfl, f, (.slice A xs.length cc), hv, fun _ _ => rfl, rfl⟩, H13.sep.sub (by repeat (first | exact S1 | exact S0 | apply S2 | apply S3))⟩) | (have hz := Auction.e_ok (floor := floor) hc2 hl2 hf2 hfr (by omega); rw [hz.1, hz.2]; refine ⟨_, _, rfl, ⟨rfl, mset f x.round (.slice ArW (xs.length + 1) crW), .slice ArW (xs.length + 1) crW, Auction.mset_at, fun _ hq => Auction.mset_ne hq, rfl⟩, ?_⟩; rw [Auction.bdc_append, Auction.bdc_one, List.length_append]; exact (H13.only (is := [It.blk b 111 [i64 floor, .map (some h)], It.mp h (mset f x.round (.slice ArW (xs.length + 1) crW)), It.row 30 36 (.slice ArW (xs.length + 1) crW) (xs.length + 1) (Auction.bdc xs ++ Note.Bid.cells x)]) (.cons (by repeat (first | exact Ph | apply Pt)) (.cons (by repeat (first | exact Ph | apply Pt)) (.cons (by repeat (first | exact Ph | apply Pt)) (.nil _))))).sep)
  · skip
    try simp only [decide_eq_true_eq, decide_eq_false_iff_not, Bool.not_eq_true', Bool.not_eq_false', Bool.and_eq_true, Bool.not_eq_true, Bool.not_eq_false] at hc11
    have hc2 := hc11
    refine wp_skip ?_
    refine then_n ?_
    refine wp_seq ?_
    refine qreg (by kernel_rfl) (by kernel_rfl) H10 ?_
    have F14 := H10.fr
    clear H10
    refine qplain (y_move rfl rfl) rfl rfl rfl F14 ?_
    clear F14; intro a15 H15
    refine qplain (y_nilCheck rfl rfl) rfl rfl rfl H15 ?_
    clear H15; intro a16 H16
    refine qplain (y_fieldB rfl z_field111_1 rfl (by first | (simp only [Nat.zero_add, Nat.add_zero, Nat.reduceAdd]; rfl) | rfl)) rfl rfl rfl H16 ?_
    clear H16; intro a17 H17
    refine qplain (y_loadB rfl z_agg109 rfl (by repeat (first | exact Mh | apply Mt)) q_ix_c2_1) rfl rfl rfl H17 ?_
    clear H17; intro a18 H18
    refine qplain (y_fieldB rfl z_field30_0 rfl (by first | (simp only [Nat.zero_add, Nat.add_zero, Nat.reduceAdd]; rfl) | rfl)) rfl rfl rfl H18 ?_
    clear H18; intro a19 H19
    refine qplain (y_loadB rfl z_agg3 rfl (by repeat (first | exact Mh | apply Mt)) q_ix_c4b32_0) rfl rfl rfl H19 ?_
    clear H19; intro a20 H20
    refine qplain (y_lookup rfl Tryd.underlying109 Tryd.underlying3 z_zval22 rfl rfl (by repeat (first | exact Mh | apply Mt))) rfl rfl rfl H20 ?_
    clear H20; intro a21 H21
    refine qplain (y_assign rfl rfl) rfl rfl rfl H21 ?_
    clear H21; intro a22 H22
    refine qfin H22 ?_
    clear H22; intro wx23 H23
    refine then_n ?_
    refine wp_seq ?_
    refine wp_block ?_
    refine wp_seq ?_
    replace H23 := H23.know (d := 8) rfl hv
    refine reg ?_
    refine plain (y_fieldB rfl z_field30_0 rfl (by first | (simp only [Nat.zero_add, Nat.add_zero, Nat.reduceAdd]; rfl) | rfl)) rfl rfl rfl H23 ?_
    clear H23; intro a24 H24
    refine plain (y_loadB rfl z_agg3 rfl (by repeat (first | exact Mh | apply Mt)) q_ix_c4b32_0) rfl rfl rfl H24 ?_
    clear H24; intro a25 H25
    refine plain (y_move rfl rfl) rfl rfl rfl H25 ?_
    clear H25; intro a26 H26
    refine plain (y_leq rfl rfl rfl) rfl rfl rfl H26 ?_
    clear H26; intro a27 H27
    refine plain (y_assign rfl rfl) rfl rfl rfl H27 ?_
    clear H27; intro a28 H28
    refine fin ?_
    refine then_n ?_
    refine cnd H28 rfl (fun hc29 => ?_) (fun hc29 => ?_) -- cond 3
    · skip
      try simp only [decide_eq_true_eq, decide_eq_false_iff_not, Bool.not_eq_true', Bool.not_eq_false', Bool.and_eq_true, Bool.not_eq_true, Bool.not_eq_false] at hc29
      have hl1 := hc29
      refine wp_seq ?_
      refine reg ?_
      refine plain (y_assign rfl rfl) rfl rfl rfl H28 ?_
      clear H28; intro a30 H30
      refine fin ?_
      refine then_n ?_
      refine wp_ret ?_
      refine inb_r ?_
      refine then_r ?_
      -- return 2
      refine ret1 rfl H30 rfl ?_
      first | (have hz := Auction.e_chk (floor := floor) (xs := xs) (now := now) hc1; rw [hz.1, hz.2]; exact ⟨_, _, rfl, ⟨rfl, f, (.slice A xs.length cc), hv, fun _ _ => rfl, rfl⟩, H30.sep.sub (by repeat (first | exact S1 | exact S0 | apply S2 | apply S3))⟩) | (have hz := Auction.e_late (floor := floor) (xs := xs) hc2 hl1; rw [hz.1, hz.2]; exact ⟨_, _, rfl, ⟨rfl, f, (.slice A xs.length cc), hv, fun _ _ => rfl, rfl⟩, H30.sep.sub (by repeat (first | exact S1 | exact S0 | apply S2 | apply S3))⟩) | (have hz := Auction.e_fee (floor := floor) (xs := xs) hc2 hl2 hf1; rw [hz.1, hz.2]; exact ⟨_, _, rfl, ⟨rfl, f, (.slice A xs.length cc), hv, fun _ _ => rfl, rfl⟩, H30.sep.sub (by repeat (first | exact S1 | exact S0 | apply S2 | apply S3))⟩) | (have hz := Auction.e_twice (floor := floor) (xs := xs) hc2 hl2 hf2 (Auction.not_fresh hkl ht1); rw [hz.1, hz.2]; exact ⟨_, _, rfl, ⟨rfl, f, (.slice A xs.length cc), hv, fun _ _ => rfl, rfl⟩, H30.sep.sub (by repeat (first | exact S1 | exact S0 | apply S2 | apply S3))⟩) | (have hz := Auction.e_full (floor := floor) hc2 hl2 hf2 hfr (by omega); rw [hz.1, hz.2]; exact ⟨_, _, rfl, ⟨rfl, f, (.slice A xs.length cc), hv, fun _ _ => rfl, rfl⟩, H30.sep.sub (by repeat (first | exact S1 | exact S0 | apply S2 | apply S3))⟩) | (have hz := Auction.e_ok (floor := floor) hc2 hl2 hf2 hfr (by omega); rw [hz.1, hz.2]; refine ⟨_, _, rfl, ⟨rfl, mset f x.round (.slice ArW (xs.length + 1) crW), .slice ArW (xs.length + 1) crW, Auction.mset_at, fun _ hq => Auction.mset_ne hq, rfl⟩, ?_⟩; rw [Auction.bdc_append, Auction.bdc_one, List.length_append]; exact (H30.only (is := [It.blk b 111 [i64 floor, .map (some h)], It.mp h (mset f x.round (.slice ArW (xs.length + 1) crW)), It.row 30 36 (.slice ArW (xs.length + 1) crW) (xs.length + 1) (Auction.bdc xs ++ Note.Bid.cells x)]) (.cons (by repeat (first | exact Ph | apply Pt)) (.cons (by repeat (first | exact Ph | apply Pt)) (.cons (by repeat (first | exact Ph | apply Pt)) (.nil _))))).sep)
    · skip
      try simp only [decide_eq_true_eq, decide_eq_false_iff_not, Bool.not_eq_true', Bool.not_eq_false', Bool.and_eq_true, Bool.not_eq_true, Bool.not_eq_false] at hc29
      have hl2 := hc29
      refine wp_seq ?_
      refine qreg (by kernel_rfl) (by kernel_rfl) H28 ?_
      have F31 := H28.fr
      clear H28
      refine qplain (y_fieldB rfl z_field30_2 rfl (by first | (simp only [Nat.zero_add, Nat.add_zero, Nat.reduceAdd]; rfl) | rfl)) rfl rfl rfl F31 ?_
      clear F31; intro a32 H32
      refine qplain (y_loadB rfl z_agg3 rfl (by repeat (first | exact Mh | apply Mt)) q_ix_c4b32_2) rfl rfl rfl H32 ?_
      clear H32; intro a33 H33
      refine qplain (y_move rfl rfl) rfl rfl rfl H33 ?_
      clear H33; intro a34 H34
      refine qplain (y_nilCheck rfl rfl) rfl rfl rfl H34 ?_
      clear H34; intro a35 H35
      refine qplain (y_fieldB rfl z_field111_0 rfl (by first | (simp only [Nat.zero_add, Nat.add_zero, Nat.reduceAdd]; rfl) | rfl)) rfl rfl rfl H35 ?_
      clear H35; intro a36 H36
      refine qplain (y_loadB rfl z_agg3 rfl (by repeat (first | exact Mh | apply Mt)) q_ix_c2_0) rfl rfl rfl H36 ?_
      clear H36; intro a37 H37
      refine qplain (y_lss rfl rfl rfl) rfl rfl rfl H37 ?_
      clear H37; intro a38 H38
      refine qplain (y_assign rfl rfl) rfl rfl rfl H38 ?_
      clear H38; intro a39 H39
      refine qfin H39 ?_
      clear H39; intro wx40 H40
      refine then_n ?_
      refine cnd H40 rfl (fun hc41 => ?_) (fun hc41 => ?_) -- cond 4
      · skip
        try simp only [decide_eq_true_eq, decide_eq_false_iff_not, Bool.not_eq_true', Bool.not_eq_false', Bool.and_eq_true, Bool.not_eq_true, Bool.not_eq_false] at hc41
        have hf1 := hc41
        refine wp_seq ?_
        refine reg ?_
        refine plain (y_assign rfl rfl) rfl rfl rfl H40 ?_
        clear H40; intro a42 H42
        refine fin ?_
        refine then_n ?_
        refine wp_ret ?_
        refine inb_r ?_
        refine then_r ?_
        -- return 3
        refine ret1 rfl H42 rfl ?_
        first | (have hz := Auction.e_chk (floor := floor) (xs := xs) (now := now) hc1; rw [hz.1, hz.2]; exact ⟨_, _, rfl, ⟨rfl, f, (.slice A xs.length cc), hv, fun _ _ => rfl, rfl⟩, H42.sep.sub (by repeat (first | exact S1 | exact S0 | apply S2 | apply S3))⟩) | (have hz := Auction.e_late (floor := floor) (xs := xs) hc2 hl1; rw [hz.1, hz.2]; exact ⟨_, _, rfl, ⟨rfl, f, (.slice A xs.length cc), hv, fun _ _ => rfl, rfl⟩, H42.sep.sub (by repeat (first | exact S1 | exact S0 | apply S2 | apply S3))⟩) | (have hz := Auction.e_fee (floor := floor) (xs := xs) hc2 hl2 hf1; rw [hz.1, hz.2]; exact ⟨_, _, rfl, ⟨rfl, f, (.slice A xs.length cc), hv, fun _ _ => rfl, rfl⟩, H42.sep.sub (by repeat (first | exact S1 | exact S0 | apply S2 | apply S3))⟩) | (have hz := Auction.e_twice (floor := floor) (xs := xs) hc2 hl2 hf2 (Auction.not_fresh hkl ht1); rw [hz.1, hz.2]; exact ⟨_, _, rfl, ⟨rfl, f, (.slice A xs.length cc), hv, fun _ _ => rfl, rfl⟩, H42.sep.sub (by repeat (first | exact S1 | exact S0 | apply S2 | apply S3))⟩) | (have hz := Auction.e_full (floor := floor) hc2 hl2 hf2 hfr (by omega); rw [hz.1, hz.2]; exact ⟨_, _, rfl, ⟨rfl, f, (.slice A xs.length cc), hv, fun _ _ => rfl, rfl⟩, H42.sep.sub (by repeat (first | exact S1 | exact S0 | apply S2 | apply S3))⟩) | (have hz := Auction.e_ok (floor := floor) hc2 hl2 hf2 hfr (by omega); rw [hz.1, hz.2]; refine ⟨_, _, rfl, ⟨rfl, mset f x.round (.slice ArW (xs.length + 1) crW), .slice ArW (xs.length + 1) crW, Auction.mset_at, fun _ hq => Auction.mset_ne hq, rfl⟩, ?_⟩; rw [Auction.bdc_append, Auction.bdc_one, List.length_append]; exact (H42.only (is := [It.blk b 111 [i64 floor, .map (some h)], It.mp h (mset f x.round (.slice ArW (xs.length + 1) crW)), It.row 30 36 (.slice ArW (xs.length + 1) crW) (xs.length + 1) (Auction.bdc xs ++ Note.Bid.cells x)]) (.cons (by repeat (first | exact Ph | apply Pt)) (.cons (by repeat (first | exact Ph | apply Pt)) (.cons (by repeat (first | exact Ph | apply Pt)) (.nil _))))).sep)
      · skip
        try simp only [decide_eq_true_eq, decide_eq_false_iff_not, Bool.not_eq_true', Bool.not_eq_false', Bool.and_eq_true, Bool.not_eq_true, Bool.not_eq_false] at hc41
        have hf2 := hc41
        refine wp_skip ?_
        refine inb_n ?_
        refine then_n ?_
        refine wp_seq ?_
        refine wp_seq ?_
        refine reg ?_
        refine plain (y_move rfl rfl) rfl rfl rfl H40 ?_
        clear H40; intro a43 H43
        refine plain (y_len rfl Tryd.underlying22 rfl) rfl rfl rfl H43 ?_
        clear H43; intro a44 H44
        refine plain (y_move rfl rfl) rfl rfl rfl H44 ?_
        clear H44; intro a45 H45
        refine fin ?_
        refine then_n ?_
        refine wp_block ?_
        refine loop (ι := Nat) (fun k => [(0, .pointer (some ⟨b, 0, none⟩)), (2, .int .i64 now), (4, .pointer (some ⟨b1, 0, none⟩)), (6, .int .i64 0), (8, (.slice A xs.length cc)), (38, (.slice A xs.length cc)), (39, .int .i64 (xs.length : Int)), (40, .int .i64 (k : Int))]) (fun k => [It.blk b1 30 (Note.Bid.cells x), It.blk b 111 [i64 floor, .map (some h)], It.mp h f, It.row 30 36 (.slice A xs.length cc) xs.length (Auction.bdc xs)]) (fun k => k ≤ xs.length ∧ ∀ j, j < k → (xs.getD j Note.Bid.zero).who ≠ x.who) (fun k => xs.length - k) (0) ⟨Nat.zero_le _, fun j hj => absurd hj (by omega)⟩ (H45.weak ⟨rfl, rfl, rfl, rfl, rfl, rfl, rfl, rfl, trivial⟩ rfl) ?_
        clear H45; intro k a46 wx46 hok46 H46
        obtain ⟨hok, hne⟩ := hok46
        refine wp_seq ?_
        refine reg ?_
        refine plain (y_lss rfl rfl rfl) rfl rfl rfl H46 ?_
        clear H46; intro a47 H47
        refine fin ?_
        refine then_n ?_
        refine wp_seq ?_
        refine cnd H47 rfl (fun hc48 => ?_) (fun hc48 => ?_) -- cond 5
        · skip
          try simp only [decide_eq_true_eq, decide_eq_false_iff_not, Bool.not_eq_true', Bool.not_eq_false', Bool.and_eq_true, Bool.not_eq_true, Bool.not_eq_false] at hc48
          refine wp_skip ?_
          refine then_n ?_
          refine wp_seq ?_
          refine wp_block ?_
          refine wp_seq ?_
          have hkl : k < xs.length := by omega
          have hwk := Auction.atD hx hkl
          have htg := hwk.tag
          refine reg ?_
          refine plain (y_ixR rfl Tryd.underlying22 z_size30 rfl rfl (by omega) (by omega) (rd_row (by repeat (first | exact Mh | apply Mt))) (by rw [Auction.bdc_len hx]; omega)) rfl rfl rfl H47 ?_
          clear H47; intro a49 H49
          refine plain (y_loadAS rfl z_agg30 z_size30 rfl (rd_row (by repeat (first | exact Mh | apply Mt))) (show _ = Note.Bid.cells (xs.getD k Note.Bid.zero) from Auction.bdc_take hx k (by omega)) (Auction.bid_len htg) (by decide)) rfl rfl rfl H49 ?_
          clear H49; intro a50 H50
          refine st_alloc rfl z_zeroN30 rfl rfl rfl H50 ?_
          clear H50; intro b51 a51 wx51 H51
          refine st_storeN rfl z_size30 rfl rfl (agg_cells _) (by repeat (first | exact Uh | apply Ut)) (q_one_c4b32 rfl rfl rfl rfl) (q_len_c4b32 (by assumption)) (q_len_c4b32 (by assumption)) (q_spl_c4b32_0_c4b32 (by assumption) (by assumption)) (by decide) rfl rfl H51 ?_
          clear H51; intro wx52 H52
          refine fin ?_
          refine then_n ?_
          refine wp_seq ?_
          refine reg ?_
          refine plain (y_fieldB rfl z_field30_1 rfl (by first | (simp only [Nat.zero_add, Nat.add_zero, Nat.reduceAdd]; rfl) | rfl)) rfl rfl rfl H52 ?_
          clear H52; intro a53 H53
          refine plain (y_loadB rfl z_agg3 rfl (by repeat (first | exact Mh | apply Mt)) q_ix_c4b32_1) rfl rfl rfl H53 ?_
          clear H53; intro a54 H54
          refine plain (y_fieldB rfl z_field30_1 rfl (by first | (simp only [Nat.zero_add, Nat.add_zero, Nat.reduceAdd]; rfl) | rfl)) rfl rfl rfl H54 ?_
          clear H54; intro a55 H55
          refine plain (y_loadB rfl z_agg3 rfl (by repeat (first | exact Mh | apply Mt)) q_ix_c4b32_1) rfl rfl rfl H55 ?_
          clear H55; intro a56 H56
          refine plain (y_eql rfl rfl rfl) rfl rfl rfl H56 ?_
          clear H56; intro a57 H57
          refine fin ?_
          refine then_n ?_
          refine cnd H57 rfl (fun hc58 => ?_) (fun hc58 => ?_) -- cond 6
          · skip
            try simp only [decide_eq_true_eq, decide_eq_false_iff_not, Bool.not_eq_true', Bool.not_eq_false', Bool.and_eq_true, Bool.not_eq_true, Bool.not_eq_false] at hc58
            have ht1 := hc58
            refine wp_seq ?_
            refine reg ?_
            refine plain (y_assign rfl rfl) rfl rfl rfl H57 ?_
            clear H57; intro a59 H59
            refine fin ?_
            refine then_n ?_
            refine wp_ret ?_
            refine inb_r ?_
            refine then_r ?_
            refine then_r ?_
            refine inb_r ?_
            refine then_r ?_
            -- return 4
            refine ret1 rfl H59 rfl ?_
            first | (have hz := Auction.e_chk (floor := floor) (xs := xs) (now := now) hc1; rw [hz.1, hz.2]; exact ⟨_, _, rfl, ⟨rfl, f, (.slice A xs.length cc), hv, fun _ _ => rfl, rfl⟩, H59.sep.sub (by repeat (first | exact S1 | exact S0 | apply S2 | apply S3))⟩) | (have hz := Auction.e_late (floor := floor) (xs := xs) hc2 hl1; rw [hz.1, hz.2]; exact ⟨_, _, rfl, ⟨rfl, f, (.slice A xs.length cc), hv, fun _ _ => rfl, rfl⟩, H59.sep.sub (by repeat (first | exact S1 | exact S0 | apply S2 | apply S3))⟩) | (have hz := Auction.e_fee (floor := floor) (xs := xs) hc2 hl2 hf1; rw [hz.1, hz.2]; exact ⟨_, _, rfl, ⟨rfl, f, (.slice A xs.length cc), hv, fun _ _ => rfl, rfl⟩, H59.sep.sub (by repeat (first | exact S1 | exact S0 | apply S2 | apply S3))⟩) | (have hz := Auction.e_twice (floor := floor) (xs := xs) hc2 hl2 hf2 (Auction.not_fresh hkl ht1); rw [hz.1, hz.2]; exact ⟨_, _, rfl, ⟨rfl, f, (.slice A xs.length cc), hv, fun _ _ => rfl, rfl⟩, H59.sep.sub (by repeat (first | exact S1 | exact S0 | apply S2 | apply S3))⟩) | (have hz := Auction.e_full (floor := floor) hc2 hl2 hf2 hfr (by omega); rw [hz.1, hz.2]; exact ⟨_, _, rfl, ⟨rfl, f, (.slice A xs.length cc), hv, fun _ _ => rfl, rfl⟩, H59.sep.sub (by repeat (first | exact S1 | exact S0 | apply S2 | apply S3))⟩) | (have hz := Auction.e_ok (floor := floor) hc2 hl2 hf2 hfr (by omega); rw [hz.1, hz.2]; refine ⟨_, _, rfl, ⟨rfl, mset f x.round (.slice ArW (xs.length + 1) crW), .slice ArW (xs.length + 1) crW, Auction.mset_at, fun _ hq => Auction.mset_ne hq, rfl⟩, ?_⟩; rw [Auction.bdc_append, Auction.bdc_one, List.length_append]; exact (H59.only (is := [It.blk b 111 [i64 floor, .map (some h)], It.mp h (mset f x.round (.slice ArW (xs.length + 1) crW)), It.row 30 36 (.slice ArW (xs.length + 1) crW) (xs.length + 1) (Auction.bdc xs ++ Note.Bid.cells x)]) (.cons (by repeat (first | exact Ph | apply Pt)) (.cons (by repeat (first | exact Ph | apply Pt)) (.cons (by repeat (first | exact Ph | apply Pt)) (.nil _))))).sep)
          · skip
            try simp only [decide_eq_true_eq, decide_eq_false_iff_not, Bool.not_eq_true', Bool.not_eq_false', Bool.and_eq_true, Bool.not_eq_true, Bool.not_eq_false] at hc58
            have ht2 := hc58
            refine wp_skip ?_
            refine inb_n ?_
            refine then_n ?_
            refine reg ?_
            refine plain (y_add rfl rfl rfl (by first | exact w64 (by omega) (by omega) | rfl)) rfl rfl rfl H57 ?_
            clear H57; intro a60 H60
            refine plain (y_move rfl rfl) rfl rfl rfl H60 ?_
            clear H60; intro a61 H61
            refine fin ?_
            refine then_n ?_
            refine ⟨k + 1, by omega, ⟨by omega, fun j hj => ?_⟩, (H61.drop (List.Sublist.cons _ (List.Sublist.refl _))).weak ⟨rfl, rfl, rfl, rfl, rfl, rfl, rfl, fi rfl (by omega), trivial⟩ rfl⟩
            by_cases e : j = k
            · subst e; exact ht2
            · exact hne j (by omega)
        · skip
          try simp only [decide_eq_true_eq, decide_eq_false_iff_not, Bool.not_eq_true', Bool.not_eq_false', Bool.and_eq_true, Bool.not_eq_true, Bool.not_eq_false] at hc48
          refine wp_exit ?_
          refine then_x ?_
          refine then_x ?_
          refine inb_hit ?_
          refine then_n ?_
          refine wp_seq ?_
          refine wp_seq ?_
          have hfr : Auction.fresh xs x := Auction.fresh_at (by omega) hne
          refine reg ?_
          refine plain (y_move rfl rfl) rfl rfl rfl H47 ?_
          clear H47; intro a62 H62
          refine plain (y_len rfl Tryd.underlying22 rfl) rfl rfl rfl H62 ?_
          clear H62; intro a63 H63
          refine plain (y_geq rfl rfl rfl) rfl rfl rfl H63 ?_
          clear H63; intro a64 H64
          refine fin ?_
          refine then_n ?_
          refine cnd H64 rfl (fun hc65 => ?_) (fun hc65 => ?_) -- cond 7
          · skip
            try simp only [decide_eq_true_eq, decide_eq_false_iff_not, Bool.not_eq_true', Bool.not_eq_false', Bool.and_eq_true, Bool.not_eq_true, Bool.not_eq_false] at hc65
            have hu1 := hc65
            refine wp_seq ?_
            refine reg ?_
            refine plain (y_assign rfl rfl) rfl rfl rfl H64 ?_
            clear H64; intro a66 H66
            refine fin ?_
            refine then_n ?_
            refine wp_ret ?_
            refine then_r ?_
            -- return 5
            refine ret1 rfl H66 rfl ?_
            first | (have hz := Auction.e_chk (floor := floor) (xs := xs) (now := now) hc1; rw [hz.1, hz.2]; exact ⟨_, _, rfl, ⟨rfl, f, (.slice A xs.length cc), hv, fun _ _ => rfl, rfl⟩, H66.sep.sub (by repeat (first | exact S1 | exact S0 | apply S2 | apply S3))⟩) | (have hz := Auction.e_late (floor := floor) (xs := xs) hc2 hl1; rw [hz.1, hz.2]; exact ⟨_, _, rfl, ⟨rfl, f, (.slice A xs.length cc), hv, fun _ _ => rfl, rfl⟩, H66.sep.sub (by repeat (first | exact S1 | exact S0 | apply S2 | apply S3))⟩) | (have hz := Auction.e_fee (floor := floor) (xs := xs) hc2 hl2 hf1; rw [hz.1, hz.2]; exact ⟨_, _, rfl, ⟨rfl, f, (.slice A xs.length cc), hv, fun _ _ => rfl, rfl⟩, H66.sep.sub (by repeat (first | exact S1 | exact S0 | apply S2 | apply S3))⟩) | (have hz := Auction.e_twice (floor := floor) (xs := xs) hc2 hl2 hf2 (Auction.not_fresh hkl ht1); rw [hz.1, hz.2]; exact ⟨_, _, rfl, ⟨rfl, f, (.slice A xs.length cc), hv, fun _ _ => rfl, rfl⟩, H66.sep.sub (by repeat (first | exact S1 | exact S0 | apply S2 | apply S3))⟩) | (have hz := Auction.e_full (floor := floor) hc2 hl2 hf2 hfr (by omega); rw [hz.1, hz.2]; exact ⟨_, _, rfl, ⟨rfl, f, (.slice A xs.length cc), hv, fun _ _ => rfl, rfl⟩, H66.sep.sub (by repeat (first | exact S1 | exact S0 | apply S2 | apply S3))⟩) | (have hz := Auction.e_ok (floor := floor) hc2 hl2 hf2 hfr (by omega); rw [hz.1, hz.2]; refine ⟨_, _, rfl, ⟨rfl, mset f x.round (.slice ArW (xs.length + 1) crW), .slice ArW (xs.length + 1) crW, Auction.mset_at, fun _ hq => Auction.mset_ne hq, rfl⟩, ?_⟩; rw [Auction.bdc_append, Auction.bdc_one, List.length_append]; exact (H66.only (is := [It.blk b 111 [i64 floor, .map (some h)], It.mp h (mset f x.round (.slice ArW (xs.length + 1) crW)), It.row 30 36 (.slice ArW (xs.length + 1) crW) (xs.length + 1) (Auction.bdc xs ++ Note.Bid.cells x)]) (.cons (by repeat (first | exact Ph | apply Pt)) (.cons (by repeat (first | exact Ph | apply Pt)) (.cons (by repeat (first | exact Ph | apply Pt)) (.nil _))))).sep)
          · skip
            try simp only [decide_eq_true_eq, decide_eq_false_iff_not, Bool.not_eq_true', Bool.not_eq_false', Bool.and_eq_true, Bool.not_eq_true, Bool.not_eq_false] at hc65
            have hu2 := hc65
            refine wp_skip ?_
            refine then_n ?_
            refine wp_seq ?_
            refine hreg [It.blk b1 30 (Note.Bid.cells x), It.blk b 111 [i64 floor, .map (some h)]] (fun _ h => (h.sub (by first | exact S0 | exact S1 | repeat (first | exact S1 | exact S0 | apply S2 | apply S3)))) (by kernel_rfl) H64 ?_
            clear H64; intro wx67 H67
            refine htake 0 rfl (by kernel_rfl) (y_move rfl rfl) rfl rfl rfl (fun _ h => (h.sub (by first | exact S0 | exact S1 | repeat (first | exact S1 | exact S0 | apply S2 | apply S3)))) H67 ?_
            clear H67; intro a68 H68
            refine htake 1 rfl (by kernel_rfl) (y_nilCheck rfl rfl) rfl rfl rfl (fun _ h => (h.sub (by first | exact S0 | exact S1 | repeat (first | exact S1 | exact S0 | apply S2 | apply S3)))) H68 ?_
            clear H68; intro a69 H69
            refine htake 2 rfl (by kernel_rfl) (y_fieldB rfl z_field111_1 rfl (by first | (simp only [Nat.zero_add, Nat.add_zero, Nat.reduceAdd]; rfl) | rfl)) rfl rfl rfl (fun _ h => (h.sub (by first | exact S0 | exact S1 | repeat (first | exact S1 | exact S0 | apply S2 | apply S3)))) H69 ?_
            clear H69; intro a70 H70
            refine htake 3 rfl (by kernel_rfl) (y_loadB rfl z_agg109 rfl (by repeat (first | exact Mh | apply Mt)) q_ix_c2_1) rfl rfl rfl (fun _ h => (h.sub (by first | exact S0 | exact S1 | repeat (first | exact S1 | exact S0 | apply S2 | apply S3)))) H70 ?_
            clear H70; intro a71 H71
            refine htake 4 rfl (by kernel_rfl) (y_fieldB rfl z_field30_0 rfl (by first | (simp only [Nat.zero_add, Nat.add_zero, Nat.reduceAdd]; rfl) | rfl)) rfl rfl rfl (fun _ h => (h.sub (by first | exact S0 | exact S1 | repeat (first | exact S1 | exact S0 | apply S2 | apply S3)))) H71 ?_
            clear H71; intro a72 H72
            refine htake 5 rfl (by kernel_rfl) (y_loadB rfl z_agg3 rfl (by repeat (first | exact Mh | apply Mt)) q_ix_c4b32_0) rfl rfl rfl (fun _ h => (h.sub (by first | exact S0 | exact S1 | repeat (first | exact S1 | exact S0 | apply S2 | apply S3)))) H72 ?_
            clear H72; intro a73 H73
            refine htake 6 rfl (by kernel_rfl) (y_move rfl rfl) rfl rfl rfl (fun _ h => (h.sub (by first | exact S0 | exact S1 | repeat (first | exact S1 | exact S0 | apply S2 | apply S3)))) H73 ?_
            clear H73; intro a74 H74
            refine htake 7 rfl (by kernel_rfl) (y_loadAB rfl z_agg30 z_size30 rfl (by repeat (first | exact Mh | apply Mt)) (q_ld_c4b32_0_36 (by assumption)) (q_len_c4b32 (by assumption))) rfl rfl rfl (fun _ h => (h.sub (by first | exact S0 | exact S1 | repeat (first | exact S1 | exact S0 | apply S2 | apply S3)))) H74 ?_
            clear H74; intro a75 H75
            refine hgo 8 rfl (by kernel_rfl) ?_
            refine st_buildSlice rfl Tryd.underlying22 z_size30 z_zero30 rfl rfl rfl (lay_agg (agg_cells _) (Auction.bid_len htx) (by simp)) rfl rfl rfl H75 ?_
            clear H75; intro b76 a76 wx76 H76
            refine hfinA H76.sep ?_
            refine hgo 9 rfl (by kernel_rfl) ?_
            refine st_append rfl z_slice22 z_notint22 rfl rfl (fun _ => (by repeat (first | exact Uh | apply Ut))) (fun w hs => Src.slice ((rd_blkA (by repeat (first | exact Mh | apply Mt))) w hs) (Auction.bid_len htx) (Auction.bid_cell _)) (by unfold maxLen at *; omega) (by omega) rfl rfl rfl H76 ?_
            clear H76; intro v77 a77 wx77 hnil77 H77
            obtain ⟨ArW, crW, hvrW, hRrW, hmrW⟩ := row_shape (v := v77) H77.sep (by repeat (first | exact Mh | apply Mt))
            subst hvrW
            refine hfinA H77.sep ?_
            refine hgo 10 rfl (by kernel_rfl) ?_
            refine st_mapUpdate rfl Tryd.underlying109 Tryd.underlying3 rfl rfl rfl (by repeat (first | exact Uh | apply Ut)) rfl rfl H77 ?_
            clear H77; intro wx78 H78
            refine hfinA H78.sep ?_
            refine hdone (by kernel_rfl) ?_
            refine then_n ?_
            refine wp_seq ?_
            refine reg ?_
            refine plain (y_assign rfl rfl) rfl rfl rfl H78 ?_
            clear H78; intro a79 H79
            refine fin ?_
            refine then_n ?_
            refine wp_ret ?_
            -- return 6
            refine ret1 rfl H79 rfl ?_
            first | (have hz := Auction.e_chk (floor := floor) (xs := xs) (now := now) hc1; rw [hz.1, hz.2]; exact ⟨_, _, rfl, ⟨rfl, f, (.slice A xs.length cc), hv, fun _ _ => rfl, rfl⟩, H79.sep.sub (by repeat (first | exact S1 | exact S0 | apply S2 | apply S3))⟩) | (have hz := Auction.e_late (floor := floor) (xs := xs) hc2 hl1; rw [hz.1, hz.2]; exact ⟨_, _, rfl, ⟨rfl, f, (.slice A xs.length cc), hv, fun _ _ => rfl, rfl⟩, H79.sep.sub (by repeat (first | exact S1 | exact S0 | apply S2 | apply S3))⟩) | (have hz := Auction.e_fee (floor := floor) (xs := xs) hc2 hl2 hf1; rw [hz.1, hz.2]; exact ⟨_, _, rfl, ⟨rfl, f, (.slice A xs.length cc), hv, fun _ _ => rfl, rfl⟩, H79.sep.sub (by repeat (first | exact S1 | exact S0 | apply S2 | apply S3))⟩) | (have hz := Auction.e_twice (floor := floor) (xs := xs) hc2 hl2 hf2 (Auction.not_fresh hkl ht1); rw [hz.1, hz.2]; exact ⟨_, _, rfl, ⟨rfl, f, (.slice A xs.length cc), hv, fun _ _ => rfl, rfl⟩, H79.sep.sub (by repeat (first | exact S1 | exact S0 | apply S2 | apply S3))⟩) | (have hz := Auction.e_full (floor := floor) hc2 hl2 hf2 hfr (by omega); rw [hz.1, hz.2]; exact ⟨_, _, rfl, ⟨rfl, f, (.slice A xs.length cc), hv, fun _ _ => rfl, rfl⟩, H79.sep.sub (by repeat (first | exact S1 | exact S0 | apply S2 | apply S3))⟩) | (have hz := Auction.e_ok (floor := floor) hc2 hl2 hf2 hfr (by omega); rw [hz.1, hz.2]; refine ⟨_, _, rfl, ⟨rfl, mset f x.round (.slice ArW (xs.length + 1) crW), .slice ArW (xs.length + 1) crW, Auction.mset_at, fun _ hq => Auction.mset_ne hq, rfl⟩, ?_⟩; rw [Auction.bdc_append, Auction.bdc_one, List.length_append]; exact (H79.only (is := [It.blk b 111 [i64 floor, .map (some h)], It.mp h (mset f x.round (.slice ArW (xs.length + 1) crW)), It.row 30 36 (.slice ArW (xs.length + 1) crW) (xs.length + 1) (Auction.bdc xs ++ Note.Bid.cells x)]) (.cons (by repeat (first | exact Ph | apply Pt)) (.cons (by repeat (first | exact Ph | apply Pt)) (.cons (by repeat (first | exact Ph | apply Pt)) (.nil _))))).sep)
set_option maxRecDepth 100000 in
set_option maxHeartbeats 1000000 in
theorem abids (floor : Int) (xs : List Note.Bid) (hx : Auction.Wfb xs) (hxl : xs.length ≤ 1000) (f : Int → Option Value) (v : Value) (b h : Nat) (r : Int) (hv : (f r).getD (.slice none 0 0 : Value) = v) {w : World} (hb : (It.blk b 111 [i64 floor, .map (some h)]).P w) (hh : (It.mp h f).P w) (hr : (It.row 30 36 v xs.length (Auction.bdc xs)).P w) : Calls Tryd.prog 35 #[.pointer (some ⟨b, 0, none⟩), .int .i64 r] w (Post [] w fun u l' => l' = [It.row 30 36 u xs.length (Auction.bdc xs)]) := by
  obtain ⟨A, cc, rfl, hR, hmx⟩ := Row.rd hr
  have lz32 : (List.replicate 32 (0 : UInt8)).length = 32 := List.length_replicate
  refine enterL (args := [.pointer (some ⟨b, 0, none⟩), .int .i64 r]) Tryd.func35 rfl rfl (l := []) (Sep.refl _) ?_
  intro a0 H0
  refine wp_seq ?_
  refine reg ?_
  refine plain (y_assign rfl rfl) rfl rfl rfl H0 ?_
  clear H0; intro a1 H1
  refine fin ?_
  refine then_n ?_
  refine wp_seq ?_
  refine wp_seq ?_
  refine reg ?_
  refine plain (y_move rfl rfl) rfl rfl rfl H1 ?_
  clear H1; intro a2 H2
  refine plain (y_peql rfl Tryd.underlying68 rfl rfl) rfl rfl rfl H2 ?_
  clear H2; intro a3 H3
  refine fin ?_
  refine then_n ?_
  refine cnd_f H3 rfl ?_
  refine wp_skip ?_
  refine then_n ?_
  refine wp_seq ?_
  refine reg ?_
  refine st_buildSlice rfl Tryd.underlying22 z_size30 z_zero30 rfl rfl rfl (show _ = some ([] : List Value) from rfl) rfl rfl rfl H3 ?_
  clear H3; intro b5 a5 wx5 H5
  refine plain (y_move rfl rfl) rfl rfl rfl H5 ?_
  clear H5; intro a6 H6
  refine plain (y_nilCheck rfl rfl) rfl rfl rfl H6 ?_
  clear H6; intro a7 H7
  refine plain (y_fieldB rfl z_field111_1 rfl (by first | (simp only [Nat.zero_add, Nat.add_zero, Nat.reduceAdd]; rfl) | rfl)) rfl rfl rfl H7 ?_
  clear H7; intro a8 H8
  refine plain (y_loadO rfl z_agg109 rfl (blk_cell hb (by rfl)) (by simp)) rfl rfl rfl H8 ?_
  clear H8; intro a9 H9
  refine plain (y_move rfl rfl) rfl rfl rfl H9 ?_
  clear H9; intro a10 H10
  refine plain (y_lookupO rfl Tryd.underlying109 Tryd.underlying3 z_zval22 rfl rfl hh) rfl rfl rfl H10 ?_
  clear H10; intro a11 H11
  replace H11 := H11.asRow (b := b5) (size := 36) (m := 0) (by repeat (first | exact Uh | apply Ut)) rfl (by unfold maxLen; omega)
  replace H11 := H11.know (d := 13) rfl hv
  refine st_append rfl z_slice22 z_notint22 rfl rfl (fun _ => (by repeat (first | exact Uh | apply Ut))) (fun w hs => Src.slice (rd_old hR (by simp) w hs) (Auction.bdc_len hx) (Auction.bdc_cell _)) (by unfold maxLen at *; first | omega | (simp only [List.length_cons, List.length_nil, List.length_append, List.length_map]; omega)) (by omega) rfl rfl rfl H11 ?_
  clear H11; intro v12 a12 wx12 hnil12 H12
  obtain ⟨Ar12, cr12, hvr12, hRr12, hmr12⟩ := row_shape (v := v12) H12.sep (by repeat (first | exact Mh | apply Mt))
  subst hvr12
  refine plain (y_assign rfl rfl) rfl rfl rfl H12 ?_
  clear H12; intro a13 H13
  refine fin ?_
  refine then_n ?_
  refine wp_ret ?_
  -- return 1
  refine ret1 rfl H13 rfl ?_
  have hsx := H13.sep
  simp only [List.nil_append, Nat.zero_add] at hsx
  exact ⟨_, _, rfl, rfl, by simpa using hsx⟩
end Go.Proofs.YtaeahloenahelaaDoor.A_Bo1

set_option linter.unusedVariables false
set_option linter.unusedSimpArgs false
namespace Go.Proofs.YtaeahloenahelaaDoor.A_Bo2
open Go.Sx Go.RowKit Go.Proofs.YtaeahloenahelaaDoor.A_Block Go.Proofs.YtaeahloenahelaaDoor.A_Sum Go.Proofs.YtaeahloenahelaaDoor.A_Ref Go.Proofs.YtaeahloenahelaaDoor.A_RSum Go.Proofs.YtaeahloenahelaaDoor.A_Leaf Go.Proofs.YtaeahloenahelaaDoor.A_Num Go.Proofs.YtaeahloenahelaaDoor.A_Key Go.Proofs.YtaeahloenahelaaDoor.A_Ref Go.Proofs.YtaeahloenahelaaDoor.A_RSum Go.Proofs.YtaeahloenahelaaDoor.A_Tag Go.Proofs.YtaeahloenahelaaDoor.A_Lay Go.Proofs.YtaeahloenahelaaDoor.A_Eq Go.Proofs.YtaeahloenahelaaDoor.A_Ref0 Go.Proofs.YtaeahloenahelaaDoor.A_Sign Go.Proofs.YtaeahloenahelaaDoor.A_RefB Go.Proofs.YtaeahloenahelaaDoor.A_Win Go.Proofs.YtaeahloenahelaaDoor.A_RWin Go.Proofs.YtaeahloenahelaaDoor.A_Law Go.Proofs.YtaeahloenahelaaDoor.A_EqW Go.Proofs.YtaeahloenahelaaDoor.A_RCnt Go.Proofs.YtaeahloenahelaaDoor.A_Bk1

theorem z_zeroN32 : zeroL Tryd.prog 32 = some ((.int .i64 0 :: (.int .i64 0 :: (.int .i64 0 :: (.int .i64 0 :: ((List.replicate 32 (0 : UInt8)).map u8 ++ (.int .i64 0 :: []))))))) := by kernel_rfl
theorem z_field111_1 : fieldB Tryd.prog 111 1 = some 1 := by kernel_rfl
theorem z_agg109 : aggB Tryd.prog 109 = some false := by kernel_rfl
theorem q_ix_c2_1 {a0 a1 : Value} : (a0 :: a1 :: [])[1]? = some a1 := (ix_c (o := 0) ix_0)
theorem z_zval22 : (Tryd.prog.info? 22).bind (·.zero) = some (.slice none 0 0) := by kernel_rfl
theorem z_field111_0 : fieldB Tryd.prog 111 0 = some 0 := by kernel_rfl
theorem z_agg3 : aggB Tryd.prog 3 = some false := by kernel_rfl
theorem q_ix_c2_0 {a0 a1 : Value} : (a0 :: a1 :: [])[0]? = some a0 := ix_0
theorem z_call44 : callB Tryd.prog 44 = true := by kernel_rfl
theorem z_call13 : callB Tryd.prog 13 = true := by kernel_rfl
theorem z_size32 : sizeB Tryd.prog 32 = some 37 := by kernel_rfl
theorem q_one_c4b32c1 {a0 a1 a2 a3 a5 : Value} {t4 : List UInt8} (o0 : a0.oneCell' = true) (o1 : a1.oneCell' = true) (o2 : a2.oneCell' = true) (o3 : a3.oneCell' = true) (o5 : a5.oneCell' = true) : (a0 :: a1 :: a2 :: a3 :: (t4.map u8 ++ (a5 :: []))).all (·.oneCell') = true := (one_c o0 (one_c o1 (one_c o2 (one_c o3 (one_b (one_c o5 one_n))))))
theorem q_len_c4b32c1 {a0 a1 a2 a3 a5 : Value} {t4 : List UInt8} (h4 : t4.length = 32) : (a0 :: a1 :: a2 :: a3 :: (t4.map u8 ++ (a5 :: []))).length = 37 := (len_c (n := 36) (len_c (n := 35) (len_c (n := 34) (len_c (n := 33) (len_b (k := 32) (n := 1) h4 (len_c (n := 0) len_n))))))
theorem q_spl_c4b32c1_0_c4b32c1 {a0 a1 a2 a3 a5 : Value} {t4 : List UInt8} {b0 b1 b2 b3 b5 : Value} {s4 : List UInt8} (h4 : t4.length = 32) (g4 : s4.length = 32) : spl (a0 :: a1 :: a2 :: a3 :: (t4.map u8 ++ (a5 :: []))) 0 (b0 :: b1 :: b2 :: b3 :: (s4.map u8 ++ (b5 :: []))) = b0 :: b1 :: b2 :: b3 :: (s4.map u8 ++ (b5 :: [])) := (spl_a (z := 37) (len_c (n := 36) (len_c (n := 35) (len_c (n := 34) (len_c (n := 33) (len_b (k := 32) (n := 1) h4 (len_c (n := 0) len_n)))))) (len_c (n := 36) (len_c (n := 35) (len_c (n := 34) (len_c (n := 33) (len_b (k := 32) (n := 1) g4 (len_c (n := 0) len_n)))))))
theorem z_field32_0 : fieldB Tryd.prog 32 0 = some 0 := by kernel_rfl
theorem z_field30_1 : fieldB Tryd.prog 30 1 = some 1 := by kernel_rfl
theorem q_ix_c4b32c1_1 {a0 a1 a2 a3 a5 : Value} {t4 : List UInt8} : (a0 :: a1 :: a2 :: a3 :: (t4.map u8 ++ (a5 :: [])))[1]? = some a1 := (ix_c (o := 0) ix_0)
theorem z_field32_1 : fieldB Tryd.prog 32 1 = some 36 := by kernel_rfl
theorem q_ix_c4b32c1_36 {a0 a1 a2 a3 a5 : Value} {t4 : List UInt8} (h4 : t4.length = 32) : (a0 :: a1 :: a2 :: a3 :: (t4.map u8 ++ (a5 :: [])))[36]? = some a5 := (ix_c (o := 35) (ix_c (o := 34) (ix_c (o := 33) (ix_c (o := 32) (ix_b (k := 32) (o := 0) h4 rfl ix_0)))))
theorem z_call62 : callB Tryd.prog 62 = true := by kernel_rfl
theorem z_agg32 : aggB Tryd.prog 32 = some true := by kernel_rfl
theorem q_ld_c4b32c1_0_37 {a0 a1 a2 a3 a5 : Value} {t4 : List UInt8} (h4 : t4.length = 32) : ((a0 :: a1 :: a2 :: a3 :: (t4.map u8 ++ (a5 :: []))).drop 0).take 37 = a0 :: a1 :: a2 :: a3 :: (t4.map u8 ++ (a5 :: [])) := (ld_a (len_c (n := 36) (len_c (n := 35) (len_c (n := 34) (len_c (n := 33) (len_b (k := 32) (n := 1) h4 (len_c (n := 0) len_n)))))))
theorem z_places32 : placesB Tryd.prog 32 = some [(0, 36), (36, 1)] := by kernel_rfl

set_option maxRecDepth 100000 in
set_option maxHeartbeats 4000000 in
theorem aclose (floor : Int) (xs : List Note.Bid) (hx : Auction.Wfb xs) (hxl : xs.length ≤ 1000) (f : Int → Option Value) (v : Value) (b h : Nat) (r : Int) (hv : (f r).getD (.slice none 0 0 : Value) = v) (k : Nat) (B : List Int) (hB : Bank.Ok B) {w : World} (hs : Sep (fps [It.blk b 111 [i64 floor, .map (some h)], It.mp h f, It.row 30 36 v xs.length (Auction.bdc xs), It.blk k 114 (B.map i64)]) w w [It.blk b 111 [i64 floor, .map (some h)], It.mp h f, It.row 30 36 v xs.length (Auction.bdc xs), It.blk k 114 (B.map i64)]) (hG : Glob 0 Sha.K w) (hz : 0 ∉ fps [It.blk b 111 [i64 floor, .map (some h)], It.mp h f, It.row 30 36 v xs.length (Auction.bdc xs), It.blk k 114 (B.map i64)]) : Calls Tryd.prog 31 #[.pointer (some ⟨b, 0, none⟩), .int .i64 r, .pointer (some ⟨k, 0, none⟩)] w (Post (fps [It.blk b 111 [i64 floor, .map (some h)], It.mp h f, It.row 30 36 v xs.length (Auction.bdc xs), It.blk k 114 (B.map i64)]) w fun u l' => u = .tuple #[.agg (Auction.Win.cells (Auction.win xs B r floor).1).toArray, .bool (Auction.win xs B r floor).2] ∧ l' = [It.blk b 111 [i64 floor, .map (some h)], It.mp h (mdel f r), It.blk k 114 ((Auction.paid B (Auction.win xs B r floor)).map i64)]) := by
  obtain ⟨A, cc, rfl, hRx, hmx⟩ := row_shape (v := v) hs (by repeat (first | exact Mh | apply Mt))
  have hcap := row_cap (A := A) (c := cc) hs (by repeat (first | exact Mh | apply Mt))
  have hwt := Auction.win_tag hx B r floor
  have hZl : Note.Z.length = 32 := Note.Z_len
  have lz32 : (List.replicate 32 (0 : UInt8)).length = 32 := List.length_replicate
  refine enterL (args := [.pointer (some ⟨b, 0, none⟩), .int .i64 r, .pointer (some ⟨k, 0, none⟩)]) Tryd.func31 rfl rfl (l := [It.blk b 111 [i64 floor, .map (some h)], It.mp h f, It.row 30 36 (.slice A xs.length cc) xs.length (Auction.bdc xs), It.blk k 114 (B.map i64)]) hs ?_
  intro a0 H0
  refine wp_seq ?_
  refine reg ?_
  refine st_alloc rfl z_zeroN32 rfl rfl rfl H0 ?_
  clear H0; intro b1 a1 wx1 H1
  refine plain (y_assign rfl rfl) rfl rfl rfl H1 ?_
  clear H1; intro a2 H2
  refine fin ?_
  refine then_n ?_
  refine wp_seq ?_
  refine wp_seq ?_
  refine reg ?_
  refine plain (y_move rfl rfl) rfl rfl rfl H2 ?_
  clear H2; intro a3 H3
  refine plain (y_peql rfl Tryd.underlying68 rfl rfl) rfl rfl rfl H3 ?_
  clear H3; intro a4 H4
  refine plain (y_move rfl rfl) rfl rfl rfl H4 ?_
  clear H4; intro a5 H5
  have H7 := H5.know (d := 12) (v := .bool false) rfl (rfl)
  clear H5
  refine plain (y_move rfl rfl) rfl rfl rfl H7 ?_
  clear H7; intro a8 H8
  refine plain (y_peql rfl Tryd.underlying70 rfl rfl) rfl rfl rfl H8 ?_
  clear H8; intro a9 H9
  refine plain (y_pick_f rfl rfl rfl) rfl rfl rfl H9 ?_
  clear H9; intro a10 H10
  refine fin ?_
  refine then_n ?_
  refine cnd_f H10 rfl ?_
  refine wp_skip ?_
  refine then_n ?_
  refine wp_seq ?_
  refine hreg _ (fun _ h => h) (by kernel_rfl) H10 ?_
  clear H10; intro wx12 H12
  refine htake 0 rfl (by kernel_rfl) (y_move rfl rfl) rfl rfl rfl (fun _ h => (h.sub (by first | exact S0 | exact S1 | repeat (first | exact S1 | exact S0 | apply S2 | apply S3)))) H12 ?_
  clear H12; intro a13 H13
  refine htake 1 rfl (by kernel_rfl) (y_nilCheck rfl rfl) rfl rfl rfl (fun _ h => (h.sub (by first | exact S0 | exact S1 | repeat (first | exact S1 | exact S0 | apply S2 | apply S3)))) H13 ?_
  clear H13; intro a14 H14
  refine htake 2 rfl (by kernel_rfl) (y_fieldB rfl z_field111_1 rfl (by first | (simp only [Nat.zero_add, Nat.add_zero, Nat.reduceAdd]; rfl) | rfl)) rfl rfl rfl (fun _ h => (h.sub (by first | exact S0 | exact S1 | repeat (first | exact S1 | exact S0 | apply S2 | apply S3)))) H14 ?_
  clear H14; intro a15 H15
  refine htake 3 rfl (by kernel_rfl) (y_loadB rfl z_agg109 rfl (by repeat (first | exact Mh | apply Mt)) q_ix_c2_1) rfl rfl rfl (fun _ h => (h.sub (by first | exact S0 | exact S1 | repeat (first | exact S1 | exact S0 | apply S2 | apply S3)))) H15 ?_
  clear H15; intro a16 H16
  refine htake 4 rfl (by kernel_rfl) (y_move rfl rfl) rfl rfl rfl (fun _ h => (h.sub (by first | exact S0 | exact S1 | repeat (first | exact S1 | exact S0 | apply S2 | apply S3)))) H16 ?_
  clear H16; intro a17 H17
  refine htake 5 rfl (by kernel_rfl) (y_lookup rfl Tryd.underlying109 Tryd.underlying3 z_zval22 rfl rfl (by repeat (first | exact Mh | apply Mt))) rfl rfl rfl (fun _ h => (h.sub (by first | exact S0 | exact S1 | repeat (first | exact S1 | exact S0 | apply S2 | apply S3)))) H17 ?_
  clear H17; intro a18 H18
  refine htake 6 rfl (by kernel_rfl) (y_move rfl rfl) rfl rfl rfl (fun _ h => (h.sub (by first | exact S0 | exact S1 | repeat (first | exact S1 | exact S0 | apply S2 | apply S3)))) H18 ?_
  clear H18; intro a19 H19
  refine htake 8 rfl (by kernel_rfl) (y_move rfl rfl) rfl rfl rfl (fun _ h => (h.sub (by first | exact S0 | exact S1 | repeat (first | exact S1 | exact S0 | apply S2 | apply S3)))) H19 ?_
  clear H19; intro a20 H20
  refine htake 9 rfl (by kernel_rfl) (y_move rfl rfl) rfl rfl rfl (fun _ h => (h.sub (by first | exact S0 | exact S1 | repeat (first | exact S1 | exact S0 | apply S2 | apply S3)))) H20 ?_
  clear H20; intro a21 H21
  refine htake 10 rfl (by kernel_rfl) (y_nilCheck rfl rfl) rfl rfl rfl (fun _ h => (h.sub (by first | exact S0 | exact S1 | repeat (first | exact S1 | exact S0 | apply S2 | apply S3)))) H21 ?_
  clear H21; intro a22 H22
  refine htake 11 rfl (by kernel_rfl) (y_fieldB rfl z_field111_0 rfl (by first | (simp only [Nat.zero_add, Nat.add_zero, Nat.reduceAdd]; rfl) | rfl)) rfl rfl rfl (fun _ h => (h.sub (by first | exact S0 | exact S1 | repeat (first | exact S1 | exact S0 | apply S2 | apply S3)))) H22 ?_
  clear H22; intro a23 H23
  refine htake 12 rfl (by kernel_rfl) (y_loadB rfl z_agg3 rfl (by repeat (first | exact Mh | apply Mt)) q_ix_c2_0) rfl rfl rfl (fun _ h => (h.sub (by first | exact S0 | exact S1 | repeat (first | exact S1 | exact S0 | apply S2 | apply S3)))) H23 ?_
  clear H23; intro a24 H24
  refine hgo2 7 17 rfl rfl (by kernel_rfl) ?_ ?_
  · skip
    refine st_call rfl z_call44 rfl rfl rfl rfl H24 (ball k B hB (H24.sep.all _ (by repeat (first | exact Mh | apply Mt)))) ?_
    clear H24; intro v25 l25 a25 wx25 hf25 H25
    obtain rfl := hf25
    simp only [List.cons_append, List.nil_append] at H25
    obtain ⟨ArK, crK, hvrK, hRrK, hmrK⟩ := row_shape (v := v25) H25.sep (by repeat (first | exact Mh | apply Mt))
    subst hvrK
    refine hfinA H25.sep ?_
    refine hgo2 13 17 rfl rfl (by kernel_rfl) ?_ ?_
    · skip
      replace H25 := H25.know (d := 23) rfl hv
      refine st_callg rfl z_call13 rfl rfl rfl rfl H25 (awin xs B r floor A ArK _ 64 _ crK rfl hB.len.symm hxl (by rw [hB.len]; decide) hx (Rd.ofSep (rd_row (by repeat (first | exact Mh | apply Mt))) H25.sep) (Rd.ofSep (rd_row (by repeat (first | exact Mh | apply Mt))) H25.sep) (hG.frm H25.sep.frm hz)) ?_
      clear H25; intro a26 wx26 H26
      refine hfinA H26.sep ?_
      refine htake 14 rfl (by kernel_rfl) (y_move rfl rfl) rfl rfl rfl (fun _ h => (h.sub (by first | exact S0 | exact S1 | repeat (first | exact S1 | exact S0 | apply S2 | apply S3)))) H26 ?_
      clear H26; intro a27 H27
      refine htake 15 rfl (by kernel_rfl) (y_extract rfl rfl rfl) rfl rfl rfl (fun _ h => (h.sub (by first | exact S0 | exact S1 | repeat (first | exact S1 | exact S0 | apply S2 | apply S3)))) H27 ?_
      clear H27; intro a28 H28
      refine htake 16 rfl (by kernel_rfl) (y_extract rfl rfl rfl) rfl rfl rfl (fun _ h => (h.sub (by first | exact S0 | exact S1 | repeat (first | exact S1 | exact S0 | apply S2 | apply S3)))) H28 ?_
      clear H28; intro a29 H29
      refine hgo 17 rfl (by kernel_rfl) ?_
      refine st_alloc rfl z_zeroN32 rfl rfl rfl H29 ?_
      clear H29; intro b30 a30 wx30 H30
      refine hfinA H30.sep ?_
      refine hgo 18 rfl (by kernel_rfl) ?_
      refine st_storeN rfl z_size32 rfl rfl (agg_cells _) (by repeat (first | exact Uh | apply Ut)) (q_one_c4b32c1 rfl rfl rfl rfl rfl) (q_len_c4b32c1 (by assumption)) (q_len_c4b32c1 (by assumption)) (q_spl_c4b32c1_0_c4b32c1 (by assumption) (by assumption)) (by decide) rfl rfl H30 ?_
      clear H30; intro wx31 H31
      refine hfinA H31.sep ?_
      refine htake 19 rfl (by kernel_rfl) (y_assign rfl rfl) rfl rfl rfl (fun _ h => (h.sub (by first | exact S0 | exact S1 | repeat (first | exact S1 | exact S0 | apply S2 | apply S3)))) H31 ?_
      clear H31; intro a32 H32
      refine hdone (by kernel_rfl) ?_
      refine then_n ?_
      refine wp_seq ?_
      refine reg ?_
      refine plain (y_move rfl rfl) rfl rfl rfl H32 ?_
      clear H32; intro a33 H33
      refine plain (y_nilCheck rfl rfl) rfl rfl rfl H33 ?_
      clear H33; intro a34 H34
      refine plain (y_fieldB rfl z_field111_1 rfl (by first | (simp only [Nat.zero_add, Nat.add_zero, Nat.reduceAdd]; rfl) | rfl)) rfl rfl rfl H34 ?_
      clear H34; intro a35 H35
      refine plain (y_loadB rfl z_agg109 rfl (by repeat (first | exact Mh | apply Mt)) q_ix_c2_1) rfl rfl rfl H35 ?_
      clear H35; intro a36 H36
      refine plain (y_move rfl rfl) rfl rfl rfl H36 ?_
      clear H36; intro a37 H37
      refine st_delete rfl Tryd.underlying109 Tryd.underlying3 rfl rfl (by repeat (first | exact Uh | apply Ut)) rfl rfl H37 ?_
      clear H37; intro wx38 H38
      refine fin ?_
      refine then_n ?_
      refine wp_seq ?_
      refine wp_seq ?_
      refine reg ?_
      refine plain (y_move rfl rfl) rfl rfl rfl H38 ?_
      clear H38; intro a39 H39
      refine fin ?_
      refine then_n ?_
      refine cnd H39 rfl (fun hc40 => ?_) (fun hc40 => ?_) -- cond 2
      · skip
        try simp only [decide_eq_true_eq, decide_eq_false_iff_not, Bool.not_eq_true', Bool.not_eq_false', Bool.and_eq_true, Bool.not_eq_true, Bool.not_eq_false] at hc40
        have hok := hc40
        refine reg ?_
        refine plain (y_move rfl rfl) rfl rfl rfl H39 ?_
        clear H39; intro a41 H41
        refine plain (y_fieldB rfl z_field32_0 rfl (by first | (simp only [Nat.zero_add, Nat.add_zero, Nat.reduceAdd]; rfl) | rfl)) rfl rfl rfl H41 ?_
        clear H41; intro a42 H42
        refine plain (y_fieldB rfl z_field30_1 rfl (by first | (simp only [Nat.zero_add, Nat.add_zero, Nat.reduceAdd]; rfl) | rfl)) rfl rfl rfl H42 ?_
        clear H42; intro a43 H43
        refine plain (y_loadB rfl z_agg3 rfl (by repeat (first | exact Mh | apply Mt)) q_ix_c4b32c1_1) rfl rfl rfl H43 ?_
        clear H43; intro a44 H44
        refine plain (y_fieldB rfl z_field32_1 rfl (by first | (simp only [Nat.zero_add, Nat.add_zero, Nat.reduceAdd]; rfl) | rfl)) rfl rfl rfl H44 ?_
        clear H44; intro a45 H45
        refine plain (y_loadB rfl z_agg3 rfl (by repeat (first | exact Mh | apply Mt)) (q_ix_c4b32c1_36 (by assumption))) rfl rfl rfl H45 ?_
        clear H45; intro a46 H46
        refine st_callu rfl z_call62 rfl rfl rfl rfl H46 (btake k B hB (Auction.win xs B r floor).1.bid.who (Auction.win xs B r floor).1.price (H46.sep.all _ (by repeat (first | exact Mh | apply Mt)))) (by repeat (first | exact Uh | apply Ut)) ?_
        clear H46; intro a47 wx47 H47
        refine fin ?_
        refine then_n ?_
        refine wp_seq ?_
        refine reg ?_
        refine plain (y_loadAB rfl z_agg32 z_size32 rfl (by repeat (first | exact Mh | apply Mt)) (q_ld_c4b32c1_0_37 (by assumption)) (q_len_c4b32c1 (by assumption))) rfl rfl rfl H47 ?_
        clear H47; intro a48 H48
        refine plain (y_move rfl rfl) rfl rfl rfl H48 ?_
        clear H48; intro a49 H49
        refine st_storeN rfl z_size32 rfl rfl (agg_cells _) (by repeat (first | exact Uh | apply Ut)) (q_one_c4b32c1 rfl rfl rfl rfl rfl) (q_len_c4b32c1 (by assumption)) (q_len_c4b32c1 (by assumption)) (q_spl_c4b32c1_0_c4b32c1 (by assumption) (by assumption)) (by decide) rfl rfl H49 ?_
        clear H49; intro wx50 H50
        refine plain (y_assign rfl rfl) rfl rfl rfl H50 ?_
        clear H50; intro a51 H51
        refine fin ?_
        refine then_n ?_
        refine wp_ret ?_
        -- return 1
        refine retct rfl H51 rfl z_agg32 z_size32 (by repeat (first | exact Mh | apply Mt)) (q_len_c4b32c1 (by assumption)) rfl ?_
        first | (have hz := hok; rw [Auction.paid_yes hok]; exact ⟨_, _, rfl, ⟨rfl, rfl⟩, (H51.only (is := [It.blk b 111 [i64 floor, .map (some h)], It.mp h (mdel f r), It.blk k 114 ((Bank.take B (Auction.win xs B r floor).1.bid.who (Auction.win xs B r floor).1.price).2.map i64)]) (.cons (by repeat (first | exact Ph | apply Pt)) (.cons (by repeat (first | exact Ph | apply Pt)) (.cons (by repeat (first | exact Ph | apply Pt)) (.nil _))))).sep⟩) | (have hz := hno; rw [Auction.paid_no (by rw [hno]; exact Bool.false_ne_true)]; exact ⟨_, _, rfl, ⟨rfl, rfl⟩, (H51.only (is := [It.blk b 111 [i64 floor, .map (some h)], It.mp h (mdel f r), It.blk k 114 (B.map i64)]) (.cons (by repeat (first | exact Ph | apply Pt)) (.cons (by repeat (first | exact Ph | apply Pt)) (.cons (by repeat (first | exact Ph | apply Pt)) (.nil _))))).sep⟩)
      · skip
        try simp only [decide_eq_true_eq, decide_eq_false_iff_not, Bool.not_eq_true', Bool.not_eq_false', Bool.and_eq_true, Bool.not_eq_true, Bool.not_eq_false] at hc40
        have hno := hc40
        refine wp_skip ?_
        refine then_n ?_
        refine wp_seq ?_
        refine reg ?_
        refine plain (y_loadAB rfl z_agg32 z_size32 rfl (by repeat (first | exact Mh | apply Mt)) (q_ld_c4b32c1_0_37 (by assumption)) (q_len_c4b32c1 (by assumption))) rfl rfl rfl H39 ?_
        clear H39; intro a52 H52
        refine plain (y_move rfl rfl) rfl rfl rfl H52 ?_
        clear H52; intro a53 H53
        refine st_storeN rfl z_size32 rfl rfl (agg_cells _) (by repeat (first | exact Uh | apply Ut)) (q_one_c4b32c1 rfl rfl rfl rfl rfl) (q_len_c4b32c1 (by assumption)) (q_len_c4b32c1 (by assumption)) (q_spl_c4b32c1_0_c4b32c1 (by assumption) (by assumption)) (by decide) rfl rfl H53 ?_
        clear H53; intro wx54 H54
        refine plain (y_assign rfl rfl) rfl rfl rfl H54 ?_
        clear H54; intro a55 H55
        refine fin ?_
        refine then_n ?_
        refine wp_ret ?_
        -- return 2
        refine retct rfl H55 rfl z_agg32 z_size32 (by repeat (first | exact Mh | apply Mt)) (q_len_c4b32c1 (by assumption)) rfl ?_
        first | (have hz := hok; rw [Auction.paid_yes hok]; exact ⟨_, _, rfl, ⟨rfl, rfl⟩, (H55.only (is := [It.blk b 111 [i64 floor, .map (some h)], It.mp h (mdel f r), It.blk k 114 ((Bank.take B (Auction.win xs B r floor).1.bid.who (Auction.win xs B r floor).1.price).2.map i64)]) (.cons (by repeat (first | exact Ph | apply Pt)) (.cons (by repeat (first | exact Ph | apply Pt)) (.cons (by repeat (first | exact Ph | apply Pt)) (.nil _))))).sep⟩) | (have hz := hno; rw [Auction.paid_no (by rw [hno]; exact Bool.false_ne_true)]; exact ⟨_, _, rfl, ⟨rfl, rfl⟩, (H55.only (is := [It.blk b 111 [i64 floor, .map (some h)], It.mp h (mdel f r), It.blk k 114 (B.map i64)]) (.cons (by repeat (first | exact Ph | apply Pt)) (.cons (by repeat (first | exact Ph | apply Pt)) (.cons (by repeat (first | exact Ph | apply Pt)) (.nil _))))).sep⟩)
    · skip
      refine st_alloc rfl z_zeroN32 rfl rfl rfl H25 ?_
      clear H25; intro b56 a56 wx56 H56
      refine hfinA H56.sep ?_
      refine hgo 13 rfl (by kernel_rfl) ?_
      replace H56 := H56.know (d := 23) rfl hv
      refine st_callg rfl z_call13 rfl rfl rfl rfl H56 (awin xs B r floor A ArK _ 64 _ crK rfl hB.len.symm hxl (by rw [hB.len]; decide) hx (Rd.ofSep (rd_row (by repeat (first | exact Mh | apply Mt))) H56.sep) (Rd.ofSep (rd_row (by repeat (first | exact Mh | apply Mt))) H56.sep) (hG.frm H56.sep.frm hz)) ?_
      clear H56; intro a57 wx57 H57
      refine hfinA H57.sep ?_
      refine htake 14 rfl (by kernel_rfl) (y_move rfl rfl) rfl rfl rfl (fun _ h => (h.sub (by first | exact S0 | exact S1 | repeat (first | exact S1 | exact S0 | apply S2 | apply S3)))) H57 ?_
      clear H57; intro a58 H58
      refine htake 15 rfl (by kernel_rfl) (y_extract rfl rfl rfl) rfl rfl rfl (fun _ h => (h.sub (by first | exact S0 | exact S1 | repeat (first | exact S1 | exact S0 | apply S2 | apply S3)))) H58 ?_
      clear H58; intro a59 H59
      refine htake 16 rfl (by kernel_rfl) (y_extract rfl rfl rfl) rfl rfl rfl (fun _ h => (h.sub (by first | exact S0 | exact S1 | repeat (first | exact S1 | exact S0 | apply S2 | apply S3)))) H59 ?_
      clear H59; intro a60 H60
      refine hgo 18 rfl (by kernel_rfl) ?_
      refine st_storeN rfl z_size32 rfl rfl (agg_cells _) (by repeat (first | exact Uh | apply Ut)) (q_one_c4b32c1 rfl rfl rfl rfl rfl) (q_len_c4b32c1 (by assumption)) (q_len_c4b32c1 (by assumption)) (q_spl_c4b32c1_0_c4b32c1 (by assumption) (by assumption)) (by decide) rfl rfl H60 ?_
      clear H60; intro wx61 H61
      refine hfinA H61.sep ?_
      refine htake 19 rfl (by kernel_rfl) (y_assign rfl rfl) rfl rfl rfl (fun _ h => (h.sub (by first | exact S0 | exact S1 | repeat (first | exact S1 | exact S0 | apply S2 | apply S3)))) H61 ?_
      clear H61; intro a62 H62
      refine hdone (by kernel_rfl) ?_
      refine then_n ?_
      refine wp_seq ?_
      refine reg ?_
      refine plain (y_move rfl rfl) rfl rfl rfl H62 ?_
      clear H62; intro a63 H63
      refine plain (y_nilCheck rfl rfl) rfl rfl rfl H63 ?_
      clear H63; intro a64 H64
      refine plain (y_fieldB rfl z_field111_1 rfl (by first | (simp only [Nat.zero_add, Nat.add_zero, Nat.reduceAdd]; rfl) | rfl)) rfl rfl rfl H64 ?_
      clear H64; intro a65 H65
      refine plain (y_loadB rfl z_agg109 rfl (by repeat (first | exact Mh | apply Mt)) q_ix_c2_1) rfl rfl rfl H65 ?_
      clear H65; intro a66 H66
      refine plain (y_move rfl rfl) rfl rfl rfl H66 ?_
      clear H66; intro a67 H67
      refine st_delete rfl Tryd.underlying109 Tryd.underlying3 rfl rfl (by repeat (first | exact Uh | apply Ut)) rfl rfl H67 ?_
      clear H67; intro wx68 H68
      refine fin ?_
      refine then_n ?_
      refine wp_seq ?_
      refine wp_seq ?_
      refine reg ?_
      refine plain (y_move rfl rfl) rfl rfl rfl H68 ?_
      clear H68; intro a69 H69
      refine fin ?_
      refine then_n ?_
      refine cnd H69 rfl (fun hc70 => ?_) (fun hc70 => ?_) -- cond 3
      · skip
        try simp only [decide_eq_true_eq, decide_eq_false_iff_not, Bool.not_eq_true', Bool.not_eq_false', Bool.and_eq_true, Bool.not_eq_true, Bool.not_eq_false] at hc70
        have hok := hc70
        refine reg ?_
        refine plain (y_move rfl rfl) rfl rfl rfl H69 ?_
        clear H69; intro a71 H71
        refine plain (y_fieldB rfl z_field32_0 rfl (by first | (simp only [Nat.zero_add, Nat.add_zero, Nat.reduceAdd]; rfl) | rfl)) rfl rfl rfl H71 ?_
        clear H71; intro a72 H72
        refine plain (y_fieldB rfl z_field30_1 rfl (by first | (simp only [Nat.zero_add, Nat.add_zero, Nat.reduceAdd]; rfl) | rfl)) rfl rfl rfl H72 ?_
        clear H72; intro a73 H73
        refine plain (y_loadB rfl z_agg3 rfl (by repeat (first | exact Mh | apply Mt)) q_ix_c4b32c1_1) rfl rfl rfl H73 ?_
        clear H73; intro a74 H74
        refine plain (y_fieldB rfl z_field32_1 rfl (by first | (simp only [Nat.zero_add, Nat.add_zero, Nat.reduceAdd]; rfl) | rfl)) rfl rfl rfl H74 ?_
        clear H74; intro a75 H75
        refine plain (y_loadB rfl z_agg3 rfl (by repeat (first | exact Mh | apply Mt)) (q_ix_c4b32c1_36 (by assumption))) rfl rfl rfl H75 ?_
        clear H75; intro a76 H76
        refine st_callu rfl z_call62 rfl rfl rfl rfl H76 (btake k B hB (Auction.win xs B r floor).1.bid.who (Auction.win xs B r floor).1.price (H76.sep.all _ (by repeat (first | exact Mh | apply Mt)))) (by repeat (first | exact Uh | apply Ut)) ?_
        clear H76; intro a77 wx77 H77
        refine fin ?_
        refine then_n ?_
        refine wp_seq ?_
        refine reg ?_
        refine plain (y_loadAB rfl z_agg32 z_size32 rfl (by repeat (first | exact Mh | apply Mt)) (q_ld_c4b32c1_0_37 (by assumption)) (q_len_c4b32c1 (by assumption))) rfl rfl rfl H77 ?_
        clear H77; intro a78 H78
        refine plain (y_move rfl rfl) rfl rfl rfl H78 ?_
        clear H78; intro a79 H79
        refine st_storeN rfl z_size32 rfl rfl (agg_cells _) (by repeat (first | exact Uh | apply Ut)) (q_one_c4b32c1 rfl rfl rfl rfl rfl) (q_len_c4b32c1 (by assumption)) (q_len_c4b32c1 (by assumption)) (q_spl_c4b32c1_0_c4b32c1 (by assumption) (by assumption)) (by decide) rfl rfl H79 ?_
        clear H79; intro wx80 H80
        refine plain (y_assign rfl rfl) rfl rfl rfl H80 ?_
        clear H80; intro a81 H81
        refine fin ?_
        refine then_n ?_
        refine wp_ret ?_
        -- return 3
        refine retct rfl H81 rfl z_agg32 z_size32 (by repeat (first | exact Mh | apply Mt)) (q_len_c4b32c1 (by assumption)) rfl ?_
        first | (have hz := hok; rw [Auction.paid_yes hok]; exact ⟨_, _, rfl, ⟨rfl, rfl⟩, (H81.only (is := [It.blk b 111 [i64 floor, .map (some h)], It.mp h (mdel f r), It.blk k 114 ((Bank.take B (Auction.win xs B r floor).1.bid.who (Auction.win xs B r floor).1.price).2.map i64)]) (.cons (by repeat (first | exact Ph | apply Pt)) (.cons (by repeat (first | exact Ph | apply Pt)) (.cons (by repeat (first | exact Ph | apply Pt)) (.nil _))))).sep⟩) | (have hz := hno; rw [Auction.paid_no (by rw [hno]; exact Bool.false_ne_true)]; exact ⟨_, _, rfl, ⟨rfl, rfl⟩, (H81.only (is := [It.blk b 111 [i64 floor, .map (some h)], It.mp h (mdel f r), It.blk k 114 (B.map i64)]) (.cons (by repeat (first | exact Ph | apply Pt)) (.cons (by repeat (first | exact Ph | apply Pt)) (.cons (by repeat (first | exact Ph | apply Pt)) (.nil _))))).sep⟩)
      · skip
        try simp only [decide_eq_true_eq, decide_eq_false_iff_not, Bool.not_eq_true', Bool.not_eq_false', Bool.and_eq_true, Bool.not_eq_true, Bool.not_eq_false] at hc70
        have hno := hc70
        refine wp_skip ?_
        refine then_n ?_
        refine wp_seq ?_
        refine reg ?_
        refine plain (y_loadAB rfl z_agg32 z_size32 rfl (by repeat (first | exact Mh | apply Mt)) (q_ld_c4b32c1_0_37 (by assumption)) (q_len_c4b32c1 (by assumption))) rfl rfl rfl H69 ?_
        clear H69; intro a82 H82
        refine plain (y_move rfl rfl) rfl rfl rfl H82 ?_
        clear H82; intro a83 H83
        refine st_storeN rfl z_size32 rfl rfl (agg_cells _) (by repeat (first | exact Uh | apply Ut)) (q_one_c4b32c1 rfl rfl rfl rfl rfl) (q_len_c4b32c1 (by assumption)) (q_len_c4b32c1 (by assumption)) (q_spl_c4b32c1_0_c4b32c1 (by assumption) (by assumption)) (by decide) rfl rfl H83 ?_
        clear H83; intro wx84 H84
        refine plain (y_assign rfl rfl) rfl rfl rfl H84 ?_
        clear H84; intro a85 H85
        refine fin ?_
        refine then_n ?_
        refine wp_ret ?_
        -- return 4
        refine retct rfl H85 rfl z_agg32 z_size32 (by repeat (first | exact Mh | apply Mt)) (q_len_c4b32c1 (by assumption)) rfl ?_
        first | (have hz := hok; rw [Auction.paid_yes hok]; exact ⟨_, _, rfl, ⟨rfl, rfl⟩, (H85.only (is := [It.blk b 111 [i64 floor, .map (some h)], It.mp h (mdel f r), It.blk k 114 ((Bank.take B (Auction.win xs B r floor).1.bid.who (Auction.win xs B r floor).1.price).2.map i64)]) (.cons (by repeat (first | exact Ph | apply Pt)) (.cons (by repeat (first | exact Ph | apply Pt)) (.cons (by repeat (first | exact Ph | apply Pt)) (.nil _))))).sep⟩) | (have hz := hno; rw [Auction.paid_no (by rw [hno]; exact Bool.false_ne_true)]; exact ⟨_, _, rfl, ⟨rfl, rfl⟩, (H85.only (is := [It.blk b 111 [i64 floor, .map (some h)], It.mp h (mdel f r), It.blk k 114 (B.map i64)]) (.cons (by repeat (first | exact Ph | apply Pt)) (.cons (by repeat (first | exact Ph | apply Pt)) (.cons (by repeat (first | exact Ph | apply Pt)) (.nil _))))).sep⟩)
  · skip
    refine st_alloc rfl z_zeroN32 rfl rfl rfl H24 ?_
    clear H24; intro b86 a86 wx86 H86
    refine hfinA H86.sep ?_
    refine hgo 7 rfl (by kernel_rfl) ?_
    refine st_call rfl z_call44 rfl rfl rfl rfl H86 (ball k B hB (H86.sep.all _ (by repeat (first | exact Mh | apply Mt)))) ?_
    clear H86; intro v87 l87 a87 wx87 hf87 H87
    obtain rfl := hf87
    simp only [List.cons_append, List.nil_append] at H87
    obtain ⟨ArK, crK, hvrK, hRrK, hmrK⟩ := row_shape (v := v87) H87.sep (by repeat (first | exact Mh | apply Mt))
    subst hvrK
    refine hfinA H87.sep ?_
    refine hgo 13 rfl (by kernel_rfl) ?_
    replace H87 := H87.know (d := 23) rfl hv
    refine st_callg rfl z_call13 rfl rfl rfl rfl H87 (awin xs B r floor A ArK _ 64 _ crK rfl hB.len.symm hxl (by rw [hB.len]; decide) hx (Rd.ofSep (rd_row (by repeat (first | exact Mh | apply Mt))) H87.sep) (Rd.ofSep (rd_row (by repeat (first | exact Mh | apply Mt))) H87.sep) (hG.frm H87.sep.frm hz)) ?_
    clear H87; intro a88 wx88 H88
    refine hfinA H88.sep ?_
    refine htake 14 rfl (by kernel_rfl) (y_move rfl rfl) rfl rfl rfl (fun _ h => (h.sub (by first | exact S0 | exact S1 | repeat (first | exact S1 | exact S0 | apply S2 | apply S3)))) H88 ?_
    clear H88; intro a89 H89
    refine htake 15 rfl (by kernel_rfl) (y_extract rfl rfl rfl) rfl rfl rfl (fun _ h => (h.sub (by first | exact S0 | exact S1 | repeat (first | exact S1 | exact S0 | apply S2 | apply S3)))) H89 ?_
    clear H89; intro a90 H90
    refine htake 16 rfl (by kernel_rfl) (y_extract rfl rfl rfl) rfl rfl rfl (fun _ h => (h.sub (by first | exact S0 | exact S1 | repeat (first | exact S1 | exact S0 | apply S2 | apply S3)))) H90 ?_
    clear H90; intro a91 H91
    refine hgo 18 rfl (by kernel_rfl) ?_
    refine st_storeN rfl z_size32 rfl rfl (agg_cells _) (by repeat (first | exact Uh | apply Ut)) (q_one_c4b32c1 rfl rfl rfl rfl rfl) (q_len_c4b32c1 (by assumption)) (q_len_c4b32c1 (by assumption)) (q_spl_c4b32c1_0_c4b32c1 (by assumption) (by assumption)) (by decide) rfl rfl H91 ?_
    clear H91; intro wx92 H92
    refine hfinA H92.sep ?_
    refine htake 19 rfl (by kernel_rfl) (y_assign rfl rfl) rfl rfl rfl (fun _ h => (h.sub (by first | exact S0 | exact S1 | repeat (first | exact S1 | exact S0 | apply S2 | apply S3)))) H92 ?_
    clear H92; intro a93 H93
    refine hdone (by kernel_rfl) ?_
    refine then_n ?_
    refine wp_seq ?_
    refine reg ?_
    refine plain (y_move rfl rfl) rfl rfl rfl H93 ?_
    clear H93; intro a94 H94
    refine plain (y_nilCheck rfl rfl) rfl rfl rfl H94 ?_
    clear H94; intro a95 H95
    refine plain (y_fieldB rfl z_field111_1 rfl (by first | (simp only [Nat.zero_add, Nat.add_zero, Nat.reduceAdd]; rfl) | rfl)) rfl rfl rfl H95 ?_
    clear H95; intro a96 H96
    refine plain (y_loadB rfl z_agg109 rfl (by repeat (first | exact Mh | apply Mt)) q_ix_c2_1) rfl rfl rfl H96 ?_
    clear H96; intro a97 H97
    refine plain (y_move rfl rfl) rfl rfl rfl H97 ?_
    clear H97; intro a98 H98
    refine st_delete rfl Tryd.underlying109 Tryd.underlying3 rfl rfl (by repeat (first | exact Uh | apply Ut)) rfl rfl H98 ?_
    clear H98; intro wx99 H99
    refine fin ?_
    refine then_n ?_
    refine wp_seq ?_
    refine wp_seq ?_
    refine reg ?_
    refine plain (y_move rfl rfl) rfl rfl rfl H99 ?_
    clear H99; intro a100 H100
    refine fin ?_
    refine then_n ?_
    refine cnd H100 rfl (fun hc101 => ?_) (fun hc101 => ?_) -- cond 4
    · skip
      try simp only [decide_eq_true_eq, decide_eq_false_iff_not, Bool.not_eq_true', Bool.not_eq_false', Bool.and_eq_true, Bool.not_eq_true, Bool.not_eq_false] at hc101
      have hok := hc101
      refine reg ?_
      refine plain (y_move rfl rfl) rfl rfl rfl H100 ?_
      clear H100; intro a102 H102
      refine plain (y_fieldB rfl z_field32_0 rfl (by first | (simp only [Nat.zero_add, Nat.add_zero, Nat.reduceAdd]; rfl) | rfl)) rfl rfl rfl H102 ?_
      clear H102; intro a103 H103
      refine plain (y_fieldB rfl z_field30_1 rfl (by first | (simp only [Nat.zero_add, Nat.add_zero, Nat.reduceAdd]; rfl) | rfl)) rfl rfl rfl H103 ?_
      clear H103; intro a104 H104
      refine plain (y_loadB rfl z_agg3 rfl (by repeat (first | exact Mh | apply Mt)) q_ix_c4b32c1_1) rfl rfl rfl H104 ?_
      clear H104; intro a105 H105
      refine plain (y_fieldB rfl z_field32_1 rfl (by first | (simp only [Nat.zero_add, Nat.add_zero, Nat.reduceAdd]; rfl) | rfl)) rfl rfl rfl H105 ?_
      clear H105; intro a106 H106
      refine plain (y_loadB rfl z_agg3 rfl (by repeat (first | exact Mh | apply Mt)) (q_ix_c4b32c1_36 (by assumption))) rfl rfl rfl H106 ?_
      clear H106; intro a107 H107
      refine st_callu rfl z_call62 rfl rfl rfl rfl H107 (btake k B hB (Auction.win xs B r floor).1.bid.who (Auction.win xs B r floor).1.price (H107.sep.all _ (by repeat (first | exact Mh | apply Mt)))) (by repeat (first | exact Uh | apply Ut)) ?_
      clear H107; intro a108 wx108 H108
      refine fin ?_
      refine then_n ?_
      refine wp_seq ?_
      refine reg ?_
      refine plain (y_loadAB rfl z_agg32 z_size32 rfl (by repeat (first | exact Mh | apply Mt)) (q_ld_c4b32c1_0_37 (by assumption)) (q_len_c4b32c1 (by assumption))) rfl rfl rfl H108 ?_
      clear H108; intro a109 H109
      refine plain (y_move rfl rfl) rfl rfl rfl H109 ?_
      clear H109; intro a110 H110
      refine st_storeN rfl z_size32 rfl rfl (agg_cells _) (by repeat (first | exact Uh | apply Ut)) (q_one_c4b32c1 rfl rfl rfl rfl rfl) (q_len_c4b32c1 (by assumption)) (q_len_c4b32c1 (by assumption)) (q_spl_c4b32c1_0_c4b32c1 (by assumption) (by assumption)) (by decide) rfl rfl H110 ?_
      clear H110; intro wx111 H111
      refine plain (y_assign rfl rfl) rfl rfl rfl H111 ?_
      clear H111; intro a112 H112
      refine fin ?_
      refine then_n ?_
      refine wp_ret ?_
      -- return 5
      refine retct rfl H112 rfl z_agg32 z_size32 (by repeat (first | exact Mh | apply Mt)) (q_len_c4b32c1 (by assumption)) rfl ?_
      first | (have hz := hok; rw [Auction.paid_yes hok]; exact ⟨_, _, rfl, ⟨rfl, rfl⟩, (H112.only (is := [It.blk b 111 [i64 floor, .map (some h)], It.mp h (mdel f r), It.blk k 114 ((Bank.take B (Auction.win xs B r floor).1.bid.who (Auction.win xs B r floor).1.price).2.map i64)]) (.cons (by repeat (first | exact Ph | apply Pt)) (.cons (by repeat (first | exact Ph | apply Pt)) (.cons (by repeat (first | exact Ph | apply Pt)) (.nil _))))).sep⟩) | (have hz := hno; rw [Auction.paid_no (by rw [hno]; exact Bool.false_ne_true)]; exact ⟨_, _, rfl, ⟨rfl, rfl⟩, (H112.only (is := [It.blk b 111 [i64 floor, .map (some h)], It.mp h (mdel f r), It.blk k 114 (B.map i64)]) (.cons (by repeat (first | exact Ph | apply Pt)) (.cons (by repeat (first | exact Ph | apply Pt)) (.cons (by repeat (first | exact Ph | apply Pt)) (.nil _))))).sep⟩)
    · skip
      try simp only [decide_eq_true_eq, decide_eq_false_iff_not, Bool.not_eq_true', Bool.not_eq_false', Bool.and_eq_true, Bool.not_eq_true, Bool.not_eq_false] at hc101
      have hno := hc101
      refine wp_skip ?_
      refine then_n ?_
      refine wp_seq ?_
      refine reg ?_
      refine plain (y_loadAB rfl z_agg32 z_size32 rfl (by repeat (first | exact Mh | apply Mt)) (q_ld_c4b32c1_0_37 (by assumption)) (q_len_c4b32c1 (by assumption))) rfl rfl rfl H100 ?_
      clear H100; intro a113 H113
      refine plain (y_move rfl rfl) rfl rfl rfl H113 ?_
      clear H113; intro a114 H114
      refine st_storeN rfl z_size32 rfl rfl (agg_cells _) (by repeat (first | exact Uh | apply Ut)) (q_one_c4b32c1 rfl rfl rfl rfl rfl) (q_len_c4b32c1 (by assumption)) (q_len_c4b32c1 (by assumption)) (q_spl_c4b32c1_0_c4b32c1 (by assumption) (by assumption)) (by decide) rfl rfl H114 ?_
      clear H114; intro wx115 H115
      refine plain (y_assign rfl rfl) rfl rfl rfl H115 ?_
      clear H115; intro a116 H116
      refine fin ?_
      refine then_n ?_
      refine wp_ret ?_
      -- return 6
      refine retct rfl H116 rfl z_agg32 z_size32 (by repeat (first | exact Mh | apply Mt)) (q_len_c4b32c1 (by assumption)) rfl ?_
      first | (have hz := hok; rw [Auction.paid_yes hok]; exact ⟨_, _, rfl, ⟨rfl, rfl⟩, (H116.only (is := [It.blk b 111 [i64 floor, .map (some h)], It.mp h (mdel f r), It.blk k 114 ((Bank.take B (Auction.win xs B r floor).1.bid.who (Auction.win xs B r floor).1.price).2.map i64)]) (.cons (by repeat (first | exact Ph | apply Pt)) (.cons (by repeat (first | exact Ph | apply Pt)) (.cons (by repeat (first | exact Ph | apply Pt)) (.nil _))))).sep⟩) | (have hz := hno; rw [Auction.paid_no (by rw [hno]; exact Bool.false_ne_true)]; exact ⟨_, _, rfl, ⟨rfl, rfl⟩, (H116.only (is := [It.blk b 111 [i64 floor, .map (some h)], It.mp h (mdel f r), It.blk k 114 (B.map i64)]) (.cons (by repeat (first | exact Ph | apply Pt)) (.cons (by repeat (first | exact Ph | apply Pt)) (.cons (by repeat (first | exact Ph | apply Pt)) (.nil _))))).sep⟩)
end Go.Proofs.YtaeahloenahelaaDoor.A_Bo2

set_option linter.unusedVariables false
set_option linter.unusedSimpArgs false
namespace Go.Proofs.YtaeahloenahelaaDoor.A_Xb1
open Go.Sx Go.RowKit Go.Proofs.YtaeahloenahelaaDoor.A_Block Go.Proofs.YtaeahloenahelaaDoor.A_Sum Go.Proofs.YtaeahloenahelaaDoor.A_Ref Go.Proofs.YtaeahloenahelaaDoor.A_RSum Go.Proofs.YtaeahloenahelaaDoor.A_Leaf Go.Proofs.YtaeahloenahelaaDoor.A_Num Go.Proofs.YtaeahloenahelaaDoor.A_Key Go.Proofs.YtaeahloenahelaaDoor.A_Ref Go.Proofs.YtaeahloenahelaaDoor.A_RSum Go.Proofs.YtaeahloenahelaaDoor.A_Tag Go.Proofs.YtaeahloenahelaaDoor.A_Lay Go.Proofs.YtaeahloenahelaaDoor.A_Eq Go.Proofs.YtaeahloenahelaaDoor.A_Ref0 Go.Proofs.YtaeahloenahelaaDoor.A_Sign Go.Proofs.YtaeahloenahelaaDoor.A_RefB

theorem z_field81_1 : fieldB Tryd.prog 81 1 = some 1 := by kernel_rfl
theorem z_agg22 : aggB Tryd.prog 22 = some false := by kernel_rfl
theorem z_size30 : sizeB Tryd.prog 30 = some 36 := by kernel_rfl
theorem z_field30_0 : fieldB Tryd.prog 30 0 = some 0 := by kernel_rfl
theorem z_agg3 : aggB Tryd.prog 3 = some false := by kernel_rfl
theorem z_agg30 : aggB Tryd.prog 30 = some true := by kernel_rfl
theorem z_zero30 : zeroL Tryd.prog 30 = some ([.int .i64 0, .int .i64 0, .int .i64 0, .int .i64 0, .int .u8 0, .int .u8 0, .int .u8 0, .int .u8 0, .int .u8 0, .int .u8 0, .int .u8 0, .int .u8 0, .int .u8 0, .int .u8 0, .int .u8 0, .int .u8 0, .int .u8 0, .int .u8 0, .int .u8 0, .int .u8 0, .int .u8 0, .int .u8 0, .int .u8 0, .int .u8 0, .int .u8 0, .int .u8 0, .int .u8 0, .int .u8 0, .int .u8 0, .int .u8 0, .int .u8 0, .int .u8 0, .int .u8 0, .int .u8 0, .int .u8 0, .int .u8 0]) := by kernel_rfl
theorem z_slice22 : sliceB Tryd.prog 22 = some (30, 36, 64) := by kernel_rfl
theorem z_notint22 : notIntB Tryd.prog 22 = true := by kernel_rfl
theorem q_ld_c4b32_0_36 {a0 a1 a2 a3 : Value} {t4 : List UInt8} (h4 : t4.length = 32) : ((a0 :: a1 :: a2 :: a3 :: t4.map u8).drop 0).take 36 = a0 :: a1 :: a2 :: a3 :: t4.map u8 := (ld_a (len_c (n := 35) (len_c (n := 34) (len_c (n := 33) (len_c (n := 32) (len_e (k := 32) h4))))))
theorem q_len_c4b32 {a0 a1 a2 a3 : Value} {t4 : List UInt8} (h4 : t4.length = 32) : (a0 :: a1 :: a2 :: a3 :: t4.map u8).length = 36 := (len_c (n := 35) (len_c (n := 34) (len_c (n := 33) (len_c (n := 32) (len_e (k := 32) h4)))))
theorem z_call51 : callB Tryd.prog 51 = true := by kernel_rfl
theorem q_ix_c4b32_0 {a0 a1 a2 a3 : Value} {t4 : List UInt8} : (a0 :: a1 :: a2 :: a3 :: t4.map u8)[0]? = some a0 := ix_0
theorem z_field30_2 : fieldB Tryd.prog 30 2 = some 2 := by kernel_rfl
theorem q_ix_c4b32_2 {a0 a1 a2 a3 : Value} {t4 : List UInt8} : (a0 :: a1 :: a2 :: a3 :: t4.map u8)[2]? = some a2 := (ix_c (o := 1) (ix_c (o := 0) ix_0))
theorem z_field81_0 : fieldB Tryd.prog 81 0 = some 0 := by kernel_rfl
theorem q_ix_c2_0 {a0 a1 : Value} : (a0 :: a1 :: [])[0]? = some a0 := ix_0
theorem z_call42 : callB Tryd.prog 42 = true := by kernel_rfl
theorem z_field30_1 : fieldB Tryd.prog 30 1 = some 1 := by kernel_rfl
theorem q_ix_c4b32_1 {a0 a1 a2 a3 : Value} {t4 : List UInt8} : (a0 :: a1 :: a2 :: a3 :: t4.map u8)[1]? = some a1 := (ix_c (o := 0) ix_0)
theorem q_ix_c2_1 {a0 a1 : Value} : (a0 :: a1 :: [])[1]? = some a1 := (ix_c (o := 0) ix_0)
theorem z_size22 : sizeB Tryd.prog 22 = some 1 := by kernel_rfl
theorem q_len_c2 {a0 a1 : Value} : (a0 :: a1 :: []).length = 2 := (len_c (n := 1) (len_c (n := 0) len_n))
theorem q_set_c2_1 {a0 a1 : Value} {v : Value} : (a0 :: a1 :: []).set 1 v = a0 :: v :: [] := (set_c (o := 0) set_0)

set_option maxRecDepth 100000 in
set_option maxHeartbeats 2000000 in
theorem xbids (floor : Int) (L : List Note.Bid) (hL : Auction.Wfb L) (hll : L.length ≤ 1000) (x : Nat) (v : Value) (r : Int) {w : World} (hp : (It.blk x 81 [i64 floor, v]).P w) (hr : (It.row 30 36 v L.length (Auction.bdc L)).P w) : Calls Tryd.prog 42 #[.pointer (some ⟨x, 0, none⟩), .int .i64 r] w (Post [] w fun u l' => l' = [It.row 30 36 u (Auction.of L r).length (Auction.bdc (Auction.of L r))]) := by
  obtain ⟨A, cc, rfl, hR, hmx⟩ := Row.rd hr
  have lz32 : (List.replicate 32 (0 : UInt8)).length = 32 := List.length_replicate
  refine enterL (args := [.pointer (some ⟨x, 0, none⟩), .int .i64 r]) Tryd.func42 rfl rfl (l := []) (Sep.refl _) ?_
  intro a0 H0
  refine wp_seq ?_
  refine reg ?_
  refine plain (y_assign rfl rfl) rfl rfl rfl H0 ?_
  clear H0; intro a1 H1
  refine fin ?_
  refine then_n ?_
  refine wp_seq ?_
  refine reg ?_
  refine plain (y_assign rfl rfl) rfl rfl rfl H1 ?_
  clear H1; intro a2 H2
  refine fin ?_
  refine then_n ?_
  refine wp_seq ?_
  refine wp_seq ?_
  refine reg ?_
  refine plain (y_assign rfl rfl) rfl rfl rfl H2 ?_
  clear H2; intro a3 H3
  refine fin ?_
  refine then_n ?_
  refine wp_block ?_
  replace H3 := H3.nilRow 30 36
  refine loop (ι := Nat × Value) (fun y => [(0, .pointer (some ⟨x, 0, none⟩)), (1, .int .i64 r), (5, y.2), (6, .int .i64 (y.1 : Int))]) (fun y => [It.row 30 36 y.2 (Auction.of (L.take y.1) r).length (Auction.bdc (Auction.of (L.take y.1) r))]) (fun y => y.1 ≤ L.length) (fun y => L.length - y.1) ((0, (.slice none 0 0 : Value))) (Nat.zero_le _) (H3.weak ⟨rfl, rfl, rfl, rfl, trivial⟩ rfl) ?_
  clear H3; intro y a4 wx4 hok4 H4
  obtain ⟨k, v⟩ := y
  dsimp only at hok4 H4
  have hok := hok4
  obtain ⟨A1, c1, rfl, hR1, hm1⟩ := row_shape (v := v) H4.sep (by repeat (first | exact Mh | apply Mt))
  have hwl := Auction.of_len (L.take k) r
  rw [List.length_take] at hwl
  refine wp_seq ?_
  refine wp_seq ?_
  refine reg ?_
  refine plain (y_move rfl rfl) rfl rfl rfl H4 ?_
  clear H4; intro a5 H5
  refine plain (y_move rfl rfl) rfl rfl rfl H5 ?_
  clear H5; intro a6 H6
  refine plain (y_nilCheck rfl rfl) rfl rfl rfl H6 ?_
  clear H6; intro a7 H7
  refine plain (y_fieldB rfl z_field81_1 rfl (by first | (simp only [Nat.zero_add, Nat.add_zero, Nat.reduceAdd]; rfl) | rfl)) rfl rfl rfl H7 ?_
  clear H7; intro a8 H8
  refine plain (y_loadO rfl z_agg22 rfl (blk_cell hp (by rfl)) (by simp)) rfl rfl rfl H8 ?_
  clear H8; intro a9 H9
  refine plain (y_len rfl Tryd.underlying22 rfl) rfl rfl rfl H9 ?_
  clear H9; intro a10 H10
  refine plain (y_lss rfl rfl rfl) rfl rfl rfl H10 ?_
  clear H10; intro a11 H11
  refine fin ?_
  refine then_n ?_
  refine cnd H11 rfl (fun hc12 => ?_) (fun hc12 => ?_) -- cond 1
  · skip
    try simp only [decide_eq_true_eq, decide_eq_false_iff_not, Bool.not_eq_true', Bool.not_eq_false', Bool.and_eq_true, Bool.not_eq_true, Bool.not_eq_false] at hc12
    refine wp_skip ?_
    refine then_n ?_
    refine wp_seq ?_
    refine wp_block ?_
    refine wp_seq ?_
    have hkl : k < L.length := by omega
    have hwk := Auction.atD hL hkl
    have htg := hwk.tag
    refine reg ?_
    refine plain (y_move rfl rfl) rfl rfl rfl H11 ?_
    clear H11; intro a13 H13
    refine plain (y_nilCheck rfl rfl) rfl rfl rfl H13 ?_
    clear H13; intro a14 H14
    refine plain (y_fieldB rfl z_field81_1 rfl (by first | (simp only [Nat.zero_add, Nat.add_zero, Nat.reduceAdd]; rfl) | rfl)) rfl rfl rfl H14 ?_
    clear H14; intro a15 H15
    refine plain (y_loadO rfl z_agg22 rfl (blk_cell hp (by rfl)) (by simp)) rfl rfl rfl H15 ?_
    clear H15; intro a16 H16
    refine plain (y_move rfl rfl) rfl rfl rfl H16 ?_
    clear H16; intro a17 H17
    refine plain (y_ixR rfl Tryd.underlying22 z_size30 rfl rfl (by omega) (by omega) (rd_old hR (by simp)) (by rw [Auction.bdc_len hL]; omega)) rfl rfl rfl H17 ?_
    clear H17; intro a18 H18
    refine plain (y_fieldS rfl z_field30_0 rfl (rd_old hR (by simp)) (by rw [Auction.bdc_len hL]; omega)) rfl rfl rfl H18 ?_
    clear H18; intro a19 H19
    refine plain (y_loadR rfl z_agg3 rfl (rd_old hR (by simp)) (by simp only [Int.toNat_natCast, Nat.zero_add, Nat.add_zero]; exact Auction.bdc_round hL hkl)) rfl rfl rfl H19 ?_
    clear H19; intro a20 H20
    refine plain (y_move rfl rfl) rfl rfl rfl H20 ?_
    clear H20; intro a21 H21
    refine plain (y_eql rfl rfl rfl) rfl rfl rfl H21 ?_
    clear H21; intro a22 H22
    refine fin ?_
    refine then_n ?_
    refine cnd H22 rfl (fun hc23 => ?_) (fun hc23 => ?_) -- cond 2
    · skip
      try simp only [decide_eq_true_eq, decide_eq_false_iff_not, Bool.not_eq_true', Bool.not_eq_false', Bool.and_eq_true, Bool.not_eq_true, Bool.not_eq_false] at hc23
      have isYes := True.intro
      refine reg ?_
      refine plain (y_move rfl rfl) rfl rfl rfl H22 ?_
      clear H22; intro a24 H24
      refine plain (y_move rfl rfl) rfl rfl rfl H24 ?_
      clear H24; intro a25 H25
      refine plain (y_nilCheck rfl rfl) rfl rfl rfl H25 ?_
      clear H25; intro a26 H26
      refine plain (y_fieldB rfl z_field81_1 rfl (by first | (simp only [Nat.zero_add, Nat.add_zero, Nat.reduceAdd]; rfl) | rfl)) rfl rfl rfl H26 ?_
      clear H26; intro a27 H27
      refine plain (y_loadO rfl z_agg22 rfl (blk_cell hp (by rfl)) (by simp)) rfl rfl rfl H27 ?_
      clear H27; intro a28 H28
      refine plain (y_move rfl rfl) rfl rfl rfl H28 ?_
      clear H28; intro a29 H29
      refine plain (y_ixR rfl Tryd.underlying22 z_size30 rfl rfl (by omega) (by omega) (rd_old hR (by simp)) (by rw [Auction.bdc_len hL]; omega)) rfl rfl rfl H29 ?_
      clear H29; intro a30 H30
      refine plain (y_loadAS rfl z_agg30 z_size30 rfl (rd_old hR (by simp)) (show _ = Note.Bid.cells (L.getD k Note.Bid.zero) from Auction.bdc_take hL k (by omega)) (Auction.bid_len htg) (by decide)) rfl rfl rfl H30 ?_
      clear H30; intro a31 H31
      refine st_buildSlice rfl Tryd.underlying22 z_size30 z_zero30 rfl rfl rfl (lay_agg (agg_cells _) (Auction.bid_len htg) (by simp)) rfl rfl rfl H31 ?_
      clear H31; intro b32 a32 wx32 H32
      refine st_append rfl z_slice22 z_notint22 rfl rfl (fun _ => (by repeat (first | exact Uh | apply Ut))) (fun w hs => Src.slice ((rd_blkA (by repeat (first | exact Mh | apply Mt))) w hs) (Auction.bid_len htg) (Auction.bid_cell _)) (by unfold maxLen at *; first | omega | (simp only [List.length_cons, List.length_nil, List.length_append, List.length_map]; omega)) (by omega) rfl rfl rfl H32 ?_
      clear H32; intro v33 a33 wx33 hnil33 H33
      obtain ⟨ArY, crY, hvrY, hRrY, hmrY⟩ := row_shape (v := v33) H33.sep (by repeat (first | exact Mh | apply Mt))
      subst hvrY
      refine plain (y_assign rfl rfl) rfl rfl rfl H33 ?_
      clear H33; intro a34 H34
      refine fin ?_
      refine inb_n ?_
      refine then_n ?_
      refine reg ?_
      refine plain (y_move rfl rfl) rfl rfl rfl H34 ?_
      clear H34; intro a35 H35
      refine plain (y_add rfl rfl rfl (by first | exact w64 (by omega) (by omega) | rfl)) rfl rfl rfl H35 ?_
      clear H35; intro a36 H36
      refine plain (y_assign rfl rfl) rfl rfl rfl H36 ?_
      clear H36; intro a37 H37
      refine fin ?_
      refine then_n ?_
      first | (have hz := isYes; refine ⟨(k + 1, .slice ArY ((Auction.of (L.take k) r).length + 1) crY), by dsimp only; omega, by dsimp only; omega, (H37.drop (List.Sublist.cons _ (List.Sublist.refl _))).weak ⟨rfl, rfl, rfl, fi rfl (by dsimp only; omega), trivial⟩ (by dsimp only; rw [Auction.of_yes hkl (by assumption), Auction.bdc_append, Auction.bdc_one, List.length_append]; rfl)⟩) | (refine ⟨(k + 1, .slice A1 (Auction.of (L.take k) r).length c1), by dsimp only; omega, by dsimp only; omega, H37.weak ⟨rfl, rfl, rfl, fi rfl (by dsimp only; omega), trivial⟩ (by dsimp only; rw [Auction.of_no hkl (by first | assumption | omega)])⟩)
    · skip
      try simp only [decide_eq_true_eq, decide_eq_false_iff_not, Bool.not_eq_true', Bool.not_eq_false', Bool.and_eq_true, Bool.not_eq_true, Bool.not_eq_false] at hc23
      refine wp_skip ?_
      refine inb_n ?_
      refine then_n ?_
      refine reg ?_
      refine plain (y_move rfl rfl) rfl rfl rfl H22 ?_
      clear H22; intro a38 H38
      refine plain (y_add rfl rfl rfl (by first | exact w64 (by omega) (by omega) | rfl)) rfl rfl rfl H38 ?_
      clear H38; intro a39 H39
      refine plain (y_assign rfl rfl) rfl rfl rfl H39 ?_
      clear H39; intro a40 H40
      refine fin ?_
      refine then_n ?_
      first | (have hz := isYes; refine ⟨(k + 1, .slice ArY ((Auction.of (L.take k) r).length + 1) crY), by dsimp only; omega, by dsimp only; omega, (H40.drop (List.Sublist.cons _ (List.Sublist.refl _))).weak ⟨rfl, rfl, rfl, fi rfl (by dsimp only; omega), trivial⟩ (by dsimp only; rw [Auction.of_yes hkl (by assumption), Auction.bdc_append, Auction.bdc_one, List.length_append]; rfl)⟩) | (refine ⟨(k + 1, .slice A1 (Auction.of (L.take k) r).length c1), by dsimp only; omega, by dsimp only; omega, H40.weak ⟨rfl, rfl, rfl, fi rfl (by dsimp only; omega), trivial⟩ (by dsimp only; rw [Auction.of_no hkl (by first | assumption | omega)])⟩)
  · skip
    try simp only [decide_eq_true_eq, decide_eq_false_iff_not, Bool.not_eq_true', Bool.not_eq_false', Bool.and_eq_true, Bool.not_eq_true, Bool.not_eq_false] at hc12
    refine wp_exit ?_
    refine then_x ?_
    refine then_x ?_
    refine inb_hit ?_
    refine then_n ?_
    refine wp_seq ?_
    refine reg ?_
    refine plain (y_move rfl rfl) rfl rfl rfl H11 ?_
    clear H11; intro a41 H41
    refine plain (y_assign rfl rfl) rfl rfl rfl H41 ?_
    clear H41; intro a42 H42
    refine fin ?_
    refine then_n ?_
    refine wp_ret ?_
    -- return 1
    refine ret1 rfl H42 rfl ?_
    have hsx := H42.sep
    have htk : L.take k = L := List.take_of_length_le (by omega)
    rw [htk] at hsx ⊢
    exact ⟨_, _, rfl, rfl, hsx⟩
set_option maxRecDepth 100000 in
set_option maxHeartbeats 4000000 in
theorem xbid (floor : Int) (L : List Note.Bid) (hL : Auction.Wfb L) (hll : L.length ≤ 1000) (x : Nat) (v : Value) (y : Note.Bid) (wy : Note.Bid.Wf y) (now : Int) {w : World} (hs : Sep (fps [It.row 30 36 v L.length (Auction.bdc L), It.blk x 81 [i64 floor, v]]) w w [It.row 30 36 v L.length (Auction.bdc L), It.blk x 81 [i64 floor, v]]) : Calls Tryd.prog 38 #[.pointer (some ⟨x, 0, none⟩), .agg (Note.Bid.cells y).toArray, .int .i64 now] w (Post (fps [It.row 30 36 v L.length (Auction.bdc L), It.blk x 81 [i64 floor, v]]) w fun u l' => u = .int .i64 (Auction.bidE floor (Auction.of L y.round) y now) ∧ ∃ v', l' = [It.row 30 36 v' (Auction.more floor L y now).length (Auction.bdc (Auction.more floor L y now)), It.blk x 81 [i64 floor, v']]) := by
  obtain ⟨A, cc, rfl, hRx, hmx⟩ := row_shape (v := v) hs (by repeat (first | exact Mh | apply Mt))
  have hcap := row_cap (A := A) (c := cc) hs (by repeat (first | exact Mh | apply Mt))
  have hty := wy.tag
  have hxs := Auction.of_wf hL y.round
  have hxl := Auction.of_len L y.round
  have lz32 : (List.replicate 32 (0 : UInt8)).length = 32 := List.length_replicate
  have lz0 := wy.tag
  refine enterL (args := [.pointer (some ⟨x, 0, none⟩), .agg (Note.Bid.cells y).toArray, .int .i64 now]) Tryd.func38 rfl rfl (l := [It.row 30 36 (.slice A L.length cc) L.length (Auction.bdc L), It.blk x 81 [i64 floor, (.slice A L.length cc)]]) hs ?_
  intro a0 H0
  refine wp_seq ?_
  refine reg ?_
  refine st_box rfl rfl (agg_cells _) rfl rfl rfl H0 ?_
  clear H0; intro b1 a1 wx1 H1
  refine plain (y_assign rfl rfl) rfl rfl rfl H1 ?_
  clear H1; intro a2 H2
  refine fin ?_
  refine then_n ?_
  refine wp_seq ?_
  refine reg ?_
  refine plain (y_loadAB rfl z_agg30 z_size30 rfl (by repeat (first | exact Mh | apply Mt)) (q_ld_c4b32_0_36 (by assumption)) (q_len_c4b32 (by assumption))) rfl rfl rfl H2 ?_
  clear H2; intro a3 H3
  refine st_callg rfl z_call51 rfl rfl rfl rfl H3 (rcheck y wy _) ?_
  clear H3; intro a4 wx4 H4
  refine plain (y_assign rfl rfl) rfl rfl rfl H4 ?_
  clear H4; intro a5 H5
  refine fin ?_
  refine then_n ?_
  refine wp_seq ?_
  refine wp_seq ?_
  refine reg ?_
  refine plain (y_move rfl rfl) rfl rfl rfl H5 ?_
  clear H5; intro a6 H6
  refine plain (y_neq rfl rfl rfl) rfl rfl rfl H6 ?_
  clear H6; intro a7 H7
  refine fin ?_
  refine then_n ?_
  refine cnd H7 rfl (fun hc8 => ?_) (fun hc8 => ?_) -- cond 1
  · skip
    try simp only [decide_eq_true_eq, decide_eq_false_iff_not, Bool.not_eq_true', Bool.not_eq_false', Bool.and_eq_true, Bool.not_eq_true, Bool.not_eq_false] at hc8
    have hc1 := hc8
    refine wp_seq ?_
    refine reg ?_
    refine plain (y_move rfl rfl) rfl rfl rfl H7 ?_
    clear H7; intro a9 H9
    refine plain (y_assign rfl rfl) rfl rfl rfl H9 ?_
    clear H9; intro a10 H10
    refine fin ?_
    refine then_n ?_
    refine wp_ret ?_
    refine then_r ?_
    -- return 1
    refine ret1 rfl H10 rfl ?_
    first | (have hz := Auction.e_chk (floor := floor) (xs := (Auction.of L y.round)) (now := now) hc1; rw [show (Auction.more floor L y now) = L by unfold Auction.more; rw [hz.1]; first | rw [if_neg (by decide)] | rw [if_neg hc1], hz.1]; exact ⟨_, _, rfl, ⟨rfl, _, rfl⟩, H10.sep.sub (by repeat (first | exact S1 | exact S0 | apply S2 | apply S3))⟩) | (have hz := Auction.e_late (floor := floor) (xs := (Auction.of L y.round)) hc2 hl1; rw [show (Auction.more floor L y now) = L by unfold Auction.more; rw [hz.1]; first | rw [if_neg (by decide)] | rw [if_neg hc1], hz.1]; exact ⟨_, _, rfl, ⟨rfl, _, rfl⟩, H10.sep.sub (by repeat (first | exact S1 | exact S0 | apply S2 | apply S3))⟩) | (have hz := Auction.e_fee (floor := floor) (xs := (Auction.of L y.round)) hc2 hl2 hf1; rw [show (Auction.more floor L y now) = L by unfold Auction.more; rw [hz.1]; first | rw [if_neg (by decide)] | rw [if_neg hc1], hz.1]; exact ⟨_, _, rfl, ⟨rfl, _, rfl⟩, H10.sep.sub (by repeat (first | exact S1 | exact S0 | apply S2 | apply S3))⟩) | (have hz := Auction.e_twice (floor := floor) (xs := (Auction.of L y.round)) hc2 hl2 hf2 (Auction.not_fresh hkl ht1); rw [show (Auction.more floor L y now) = L by unfold Auction.more; rw [hz.1]; first | rw [if_neg (by decide)] | rw [if_neg hc1], hz.1]; exact ⟨_, _, rfl, ⟨rfl, _, rfl⟩, H10.sep.sub (by repeat (first | exact S1 | exact S0 | apply S2 | apply S3))⟩) | (have hz := Auction.e_full (floor := floor) (xs := (Auction.of L y.round)) hc2 hl2 hf2 hfr (by omega); rw [show (Auction.more floor L y now) = L by unfold Auction.more; rw [hz.1]; first | rw [if_neg (by decide)] | rw [if_neg hc1], hz.1]; exact ⟨_, _, rfl, ⟨rfl, _, rfl⟩, H10.sep.sub (by repeat (first | exact S1 | exact S0 | apply S2 | apply S3))⟩) | (have hz := Auction.e_ok (floor := floor) (xs := (Auction.of L y.round)) hc2 hl2 hf2 hfr (by omega); rw [show (Auction.more floor L y now) = L ++ [y] by unfold Auction.more; rw [hz.1, if_pos rfl], hz.1]; refine ⟨_, _, rfl, ⟨rfl, .slice ArW (L.length + 1) crW, rfl⟩, ?_⟩; rw [Auction.bdc_append, Auction.bdc_one, List.length_append]; exact (H10.only (is := [It.row 30 36 (.slice ArW (L.length + 1) crW) (L.length + 1) (Auction.bdc L ++ Note.Bid.cells y), It.blk x 81 [i64 floor, (.slice ArW (L.length + 1) crW)]]) (.cons (by repeat (first | exact Ph | apply Pt)) (.cons (by repeat (first | exact Ph | apply Pt)) (.nil _)))).sep)
  · skip
    try simp only [decide_eq_true_eq, decide_eq_false_iff_not, Bool.not_eq_true', Bool.not_eq_false', Bool.and_eq_true, Bool.not_eq_true, Bool.not_eq_false] at hc8
    have hc2 := hc8
    refine wp_skip ?_
    refine then_n ?_
    refine wp_seq ?_
    refine wp_seq ?_
    refine reg ?_
    refine plain (y_fieldB rfl z_field30_0 rfl (by first | (simp only [Nat.zero_add, Nat.add_zero, Nat.reduceAdd]; rfl) | rfl)) rfl rfl rfl H7 ?_
    clear H7; intro a11 H11
    refine plain (y_loadB rfl z_agg3 rfl (by repeat (first | exact Mh | apply Mt)) q_ix_c4b32_0) rfl rfl rfl H11 ?_
    clear H11; intro a12 H12
    refine plain (y_move rfl rfl) rfl rfl rfl H12 ?_
    clear H12; intro a13 H13
    refine plain (y_leq rfl rfl rfl) rfl rfl rfl H13 ?_
    clear H13; intro a14 H14
    refine fin ?_
    refine then_n ?_
    refine cnd H14 rfl (fun hc15 => ?_) (fun hc15 => ?_) -- cond 2
    · skip
      try simp only [decide_eq_true_eq, decide_eq_false_iff_not, Bool.not_eq_true', Bool.not_eq_false', Bool.and_eq_true, Bool.not_eq_true, Bool.not_eq_false] at hc15
      have hl1 := hc15
      refine wp_seq ?_
      refine reg ?_
      refine plain (y_assign rfl rfl) rfl rfl rfl H14 ?_
      clear H14; intro a16 H16
      refine fin ?_
      refine then_n ?_
      refine wp_ret ?_
      refine then_r ?_
      -- return 2
      refine ret1 rfl H16 rfl ?_
      first | (have hz := Auction.e_chk (floor := floor) (xs := (Auction.of L y.round)) (now := now) hc1; rw [show (Auction.more floor L y now) = L by unfold Auction.more; rw [hz.1]; first | rw [if_neg (by decide)] | rw [if_neg hc1], hz.1]; exact ⟨_, _, rfl, ⟨rfl, _, rfl⟩, H16.sep.sub (by repeat (first | exact S1 | exact S0 | apply S2 | apply S3))⟩) | (have hz := Auction.e_late (floor := floor) (xs := (Auction.of L y.round)) hc2 hl1; rw [show (Auction.more floor L y now) = L by unfold Auction.more; rw [hz.1]; first | rw [if_neg (by decide)] | rw [if_neg hc1], hz.1]; exact ⟨_, _, rfl, ⟨rfl, _, rfl⟩, H16.sep.sub (by repeat (first | exact S1 | exact S0 | apply S2 | apply S3))⟩) | (have hz := Auction.e_fee (floor := floor) (xs := (Auction.of L y.round)) hc2 hl2 hf1; rw [show (Auction.more floor L y now) = L by unfold Auction.more; rw [hz.1]; first | rw [if_neg (by decide)] | rw [if_neg hc1], hz.1]; exact ⟨_, _, rfl, ⟨rfl, _, rfl⟩, H16.sep.sub (by repeat (first | exact S1 | exact S0 | apply S2 | apply S3))⟩) | (have hz := Auction.e_twice (floor := floor) (xs := (Auction.of L y.round)) hc2 hl2 hf2 (Auction.not_fresh hkl ht1); rw [show (Auction.more floor L y now) = L by unfold Auction.more; rw [hz.1]; first | rw [if_neg (by decide)] | rw [if_neg hc1], hz.1]; exact ⟨_, _, rfl, ⟨rfl, _, rfl⟩, H16.sep.sub (by repeat (first | exact S1 | exact S0 | apply S2 | apply S3))⟩) | (have hz := Auction.e_full (floor := floor) (xs := (Auction.of L y.round)) hc2 hl2 hf2 hfr (by omega); rw [show (Auction.more floor L y now) = L by unfold Auction.more; rw [hz.1]; first | rw [if_neg (by decide)] | rw [if_neg hc1], hz.1]; exact ⟨_, _, rfl, ⟨rfl, _, rfl⟩, H16.sep.sub (by repeat (first | exact S1 | exact S0 | apply S2 | apply S3))⟩) | (have hz := Auction.e_ok (floor := floor) (xs := (Auction.of L y.round)) hc2 hl2 hf2 hfr (by omega); rw [show (Auction.more floor L y now) = L ++ [y] by unfold Auction.more; rw [hz.1, if_pos rfl], hz.1]; refine ⟨_, _, rfl, ⟨rfl, .slice ArW (L.length + 1) crW, rfl⟩, ?_⟩; rw [Auction.bdc_append, Auction.bdc_one, List.length_append]; exact (H16.only (is := [It.row 30 36 (.slice ArW (L.length + 1) crW) (L.length + 1) (Auction.bdc L ++ Note.Bid.cells y), It.blk x 81 [i64 floor, (.slice ArW (L.length + 1) crW)]]) (.cons (by repeat (first | exact Ph | apply Pt)) (.cons (by repeat (first | exact Ph | apply Pt)) (.nil _)))).sep)
    · skip
      try simp only [decide_eq_true_eq, decide_eq_false_iff_not, Bool.not_eq_true', Bool.not_eq_false', Bool.and_eq_true, Bool.not_eq_true, Bool.not_eq_false] at hc15
      have hl2 := hc15
      refine wp_skip ?_
      refine then_n ?_
      refine wp_seq ?_
      refine wp_seq ?_
      refine qreg (by kernel_rfl) (by kernel_rfl) H14 ?_
      have F17 := H14.fr
      clear H14
      refine qplain (y_fieldB rfl z_field30_2 rfl (by first | (simp only [Nat.zero_add, Nat.add_zero, Nat.reduceAdd]; rfl) | rfl)) rfl rfl rfl F17 ?_
      clear F17; intro a18 H18
      refine qplain (y_loadB rfl z_agg3 rfl (by repeat (first | exact Mh | apply Mt)) q_ix_c4b32_2) rfl rfl rfl H18 ?_
      clear H18; intro a19 H19
      refine qplain (y_move rfl rfl) rfl rfl rfl H19 ?_
      clear H19; intro a20 H20
      refine qplain (y_nilCheck rfl rfl) rfl rfl rfl H20 ?_
      clear H20; intro a21 H21
      refine qplain (y_fieldB rfl z_field81_0 rfl (by first | (simp only [Nat.zero_add, Nat.add_zero, Nat.reduceAdd]; rfl) | rfl)) rfl rfl rfl H21 ?_
      clear H21; intro a22 H22
      refine qplain (y_loadB rfl z_agg3 rfl (by repeat (first | exact Mh | apply Mt)) q_ix_c2_0) rfl rfl rfl H22 ?_
      clear H22; intro a23 H23
      refine qplain (y_lss rfl rfl rfl) rfl rfl rfl H23 ?_
      clear H23; intro a24 H24
      refine qfin H24 ?_
      clear H24; intro wx25 H25
      refine then_n ?_
      refine cnd H25 rfl (fun hc26 => ?_) (fun hc26 => ?_) -- cond 3
      · skip
        try simp only [decide_eq_true_eq, decide_eq_false_iff_not, Bool.not_eq_true', Bool.not_eq_false', Bool.and_eq_true, Bool.not_eq_true, Bool.not_eq_false] at hc26
        have hf1 := hc26
        refine wp_seq ?_
        refine reg ?_
        refine plain (y_assign rfl rfl) rfl rfl rfl H25 ?_
        clear H25; intro a27 H27
        refine fin ?_
        refine then_n ?_
        refine wp_ret ?_
        refine then_r ?_
        -- return 3
        refine ret1 rfl H27 rfl ?_
        first | (have hz := Auction.e_chk (floor := floor) (xs := (Auction.of L y.round)) (now := now) hc1; rw [show (Auction.more floor L y now) = L by unfold Auction.more; rw [hz.1]; first | rw [if_neg (by decide)] | rw [if_neg hc1], hz.1]; exact ⟨_, _, rfl, ⟨rfl, _, rfl⟩, H27.sep.sub (by repeat (first | exact S1 | exact S0 | apply S2 | apply S3))⟩) | (have hz := Auction.e_late (floor := floor) (xs := (Auction.of L y.round)) hc2 hl1; rw [show (Auction.more floor L y now) = L by unfold Auction.more; rw [hz.1]; first | rw [if_neg (by decide)] | rw [if_neg hc1], hz.1]; exact ⟨_, _, rfl, ⟨rfl, _, rfl⟩, H27.sep.sub (by repeat (first | exact S1 | exact S0 | apply S2 | apply S3))⟩) | (have hz := Auction.e_fee (floor := floor) (xs := (Auction.of L y.round)) hc2 hl2 hf1; rw [show (Auction.more floor L y now) = L by unfold Auction.more; rw [hz.1]; first | rw [if_neg (by decide)] | rw [if_neg hc1], hz.1]; exact ⟨_, _, rfl, ⟨rfl, _, rfl⟩, H27.sep.sub (by repeat (first | exact S1 | exact S0 | apply S2 | apply S3))⟩) | (have hz := Auction.e_twice (floor := floor) (xs := (Auction.of L y.round)) hc2 hl2 hf2 (Auction.not_fresh hkl ht1); rw [show (Auction.more floor L y now) = L by unfold Auction.more; rw [hz.1]; first | rw [if_neg (by decide)] | rw [if_neg hc1], hz.1]; exact ⟨_, _, rfl, ⟨rfl, _, rfl⟩, H27.sep.sub (by repeat (first | exact S1 | exact S0 | apply S2 | apply S3))⟩) | (have hz := Auction.e_full (floor := floor) (xs := (Auction.of L y.round)) hc2 hl2 hf2 hfr (by omega); rw [show (Auction.more floor L y now) = L by unfold Auction.more; rw [hz.1]; first | rw [if_neg (by decide)] | rw [if_neg hc1], hz.1]; exact ⟨_, _, rfl, ⟨rfl, _, rfl⟩, H27.sep.sub (by repeat (first | exact S1 | exact S0 | apply S2 | apply S3))⟩) | (have hz := Auction.e_ok (floor := floor) (xs := (Auction.of L y.round)) hc2 hl2 hf2 hfr (by omega); rw [show (Auction.more floor L y now) = L ++ [y] by unfold Auction.more; rw [hz.1, if_pos rfl], hz.1]; refine ⟨_, _, rfl, ⟨rfl, .slice ArW (L.length + 1) crW, rfl⟩, ?_⟩; rw [Auction.bdc_append, Auction.bdc_one, List.length_append]; exact (H27.only (is := [It.row 30 36 (.slice ArW (L.length + 1) crW) (L.length + 1) (Auction.bdc L ++ Note.Bid.cells y), It.blk x 81 [i64 floor, (.slice ArW (L.length + 1) crW)]]) (.cons (by repeat (first | exact Ph | apply Pt)) (.cons (by repeat (first | exact Ph | apply Pt)) (.nil _)))).sep)
      · skip
        try simp only [decide_eq_true_eq, decide_eq_false_iff_not, Bool.not_eq_true', Bool.not_eq_false', Bool.and_eq_true, Bool.not_eq_true, Bool.not_eq_false] at hc26
        have hf2 := hc26
        refine wp_skip ?_
        refine then_n ?_
        refine wp_seq ?_
        refine reg ?_
        refine plain (y_move rfl rfl) rfl rfl rfl H25 ?_
        clear H25; intro a28 H28
        refine plain (y_fieldB rfl z_field30_0 rfl (by first | (simp only [Nat.zero_add, Nat.add_zero, Nat.reduceAdd]; rfl) | rfl)) rfl rfl rfl H28 ?_
        clear H28; intro a29 H29
        refine plain (y_loadB rfl z_agg3 rfl (by repeat (first | exact Mh | apply Mt)) q_ix_c4b32_0) rfl rfl rfl H29 ?_
        clear H29; intro a30 H30
        refine st_call rfl z_call42 rfl rfl rfl rfl H30 (xbids floor L hL hll x (.slice A L.length cc) y.round (H30.sep.all _ (by repeat (first | exact Mh | apply Mt))) (H30.sep.all _ (by repeat (first | exact Mh | apply Mt)))) ?_
        clear H30; intro v31 l31 a31 wx31 hf31 H31
        obtain rfl := hf31
        simp only [List.cons_append, List.nil_append] at H31
        obtain ⟨ArS, crS, hvrS, hRrS, hmrS⟩ := row_shape (v := v31) H31.sep (by repeat (first | exact Mh | apply Mt))
        subst hvrS
        refine plain (y_assign rfl rfl) rfl rfl rfl H31 ?_
        clear H31; intro a32 H32
        refine fin ?_
        refine then_n ?_
        refine wp_seq ?_
        refine wp_seq ?_
        refine reg ?_
        refine plain (y_assign rfl rfl) rfl rfl rfl H32 ?_
        clear H32; intro a33 H33
        refine fin ?_
        refine then_n ?_
        refine wp_block ?_
        refine loop (ι := Nat) (fun k => [(0, .pointer (some ⟨x, 0, none⟩)), (2, .int .i64 now), (4, .pointer (some ⟨b1, 0, none⟩)), (6, .int .i64 0), (8, .slice ArS (Auction.of L y.round).length crS), (9, .int .i64 (k : Int))]) (fun k => [It.row 30 36 (.slice ArS (Auction.of L y.round).length crS) (Auction.of L y.round).length (Auction.bdc (Auction.of L y.round)), It.blk b1 30 (Note.Bid.cells y), It.row 30 36 (.slice A L.length cc) L.length (Auction.bdc L), It.blk x 81 [i64 floor, (.slice A L.length cc)]]) (fun k => k ≤ (Auction.of L y.round).length ∧ ∀ j, j < k → ((Auction.of L y.round).getD j Note.Bid.zero).who ≠ y.who) (fun k => (Auction.of L y.round).length - k) (0) ⟨Nat.zero_le _, fun j hj => absurd hj (by omega)⟩ (H33.weak ⟨rfl, rfl, rfl, rfl, rfl, rfl, trivial⟩ rfl) ?_
        clear H33; intro k a34 wx34 hok34 H34
        obtain ⟨hok, hne⟩ := hok34
        refine wp_seq ?_
        refine wp_seq ?_
        refine reg ?_
        refine plain (y_move rfl rfl) rfl rfl rfl H34 ?_
        clear H34; intro a35 H35
        refine plain (y_move rfl rfl) rfl rfl rfl H35 ?_
        clear H35; intro a36 H36
        refine plain (y_len rfl Tryd.underlying22 rfl) rfl rfl rfl H36 ?_
        clear H36; intro a37 H37
        refine plain (y_lss rfl rfl rfl) rfl rfl rfl H37 ?_
        clear H37; intro a38 H38
        refine fin ?_
        refine then_n ?_
        refine cnd H38 rfl (fun hc39 => ?_) (fun hc39 => ?_) -- cond 4
        · skip
          try simp only [decide_eq_true_eq, decide_eq_false_iff_not, Bool.not_eq_true', Bool.not_eq_false', Bool.and_eq_true, Bool.not_eq_true, Bool.not_eq_false] at hc39
          refine wp_skip ?_
          refine then_n ?_
          refine wp_seq ?_
          refine wp_block ?_
          refine wp_seq ?_
          have hkl : k < (Auction.of L y.round).length := by omega
          have hwk := Auction.atD hxs hkl
          have htg := hwk.tag
          refine qreg (by kernel_rfl) (by kernel_rfl) H38 ?_
          have F40 := H38.fr
          clear H38
          refine qplain (y_move rfl rfl) rfl rfl rfl F40 ?_
          clear F40; intro a41 H41
          refine qplain (y_move rfl rfl) rfl rfl rfl H41 ?_
          clear H41; intro a42 H42
          refine qplain (y_ixR rfl Tryd.underlying22 z_size30 rfl rfl (by omega) (by omega) (rd_row (by repeat (first | exact Mh | apply Mt))) (by rw [Auction.bdc_len hxs]; omega)) rfl rfl rfl H42 ?_
          clear H42; intro a43 H43
          refine qplain (y_fieldS rfl z_field30_1 rfl (rd_row (by repeat (first | exact Mh | apply Mt))) (by rw [Auction.bdc_len hxs]; omega)) rfl rfl rfl H43 ?_
          clear H43; intro a44 H44
          refine qplain (y_loadR rfl z_agg3 rfl (rd_row (by repeat (first | exact Mh | apply Mt))) (by simp only [Int.toNat_natCast, Nat.zero_add, Nat.add_zero]; exact (show _ = some (i64 ((Auction.of L y.round).getD k Note.Bid.zero).who) from Auction.bdc_at (c := 1) hxs hkl (by omega)))) rfl rfl rfl H44 ?_
          clear H44; intro a45 H45
          refine qplain (y_fieldB rfl z_field30_1 rfl (by first | (simp only [Nat.zero_add, Nat.add_zero, Nat.reduceAdd]; rfl) | rfl)) rfl rfl rfl H45 ?_
          clear H45; intro a46 H46
          refine qplain (y_loadB rfl z_agg3 rfl (by repeat (first | exact Mh | apply Mt)) q_ix_c4b32_1) rfl rfl rfl H46 ?_
          clear H46; intro a47 H47
          refine qplain (y_eql rfl rfl rfl) rfl rfl rfl H47 ?_
          clear H47; intro a48 H48
          refine qfin H48 ?_
          clear H48; intro wx49 H49
          refine then_n ?_
          refine cnd H49 rfl (fun hc50 => ?_) (fun hc50 => ?_) -- cond 5
          · skip
            try simp only [decide_eq_true_eq, decide_eq_false_iff_not, Bool.not_eq_true', Bool.not_eq_false', Bool.and_eq_true, Bool.not_eq_true, Bool.not_eq_false] at hc50
            have ht1 := hc50
            refine wp_seq ?_
            refine reg ?_
            refine plain (y_assign rfl rfl) rfl rfl rfl H49 ?_
            clear H49; intro a51 H51
            refine fin ?_
            refine then_n ?_
            refine wp_ret ?_
            refine inb_r ?_
            refine then_r ?_
            refine then_r ?_
            refine inb_r ?_
            refine then_r ?_
            -- return 4
            refine ret1 rfl H51 rfl ?_
            first | (have hz := Auction.e_chk (floor := floor) (xs := (Auction.of L y.round)) (now := now) hc1; rw [show (Auction.more floor L y now) = L by unfold Auction.more; rw [hz.1]; first | rw [if_neg (by decide)] | rw [if_neg hc1], hz.1]; exact ⟨_, _, rfl, ⟨rfl, _, rfl⟩, H51.sep.sub (by repeat (first | exact S1 | exact S0 | apply S2 | apply S3))⟩) | (have hz := Auction.e_late (floor := floor) (xs := (Auction.of L y.round)) hc2 hl1; rw [show (Auction.more floor L y now) = L by unfold Auction.more; rw [hz.1]; first | rw [if_neg (by decide)] | rw [if_neg hc1], hz.1]; exact ⟨_, _, rfl, ⟨rfl, _, rfl⟩, H51.sep.sub (by repeat (first | exact S1 | exact S0 | apply S2 | apply S3))⟩) | (have hz := Auction.e_fee (floor := floor) (xs := (Auction.of L y.round)) hc2 hl2 hf1; rw [show (Auction.more floor L y now) = L by unfold Auction.more; rw [hz.1]; first | rw [if_neg (by decide)] | rw [if_neg hc1], hz.1]; exact ⟨_, _, rfl, ⟨rfl, _, rfl⟩, H51.sep.sub (by repeat (first | exact S1 | exact S0 | apply S2 | apply S3))⟩) | (have hz := Auction.e_twice (floor := floor) (xs := (Auction.of L y.round)) hc2 hl2 hf2 (Auction.not_fresh hkl ht1); rw [show (Auction.more floor L y now) = L by unfold Auction.more; rw [hz.1]; first | rw [if_neg (by decide)] | rw [if_neg hc1], hz.1]; exact ⟨_, _, rfl, ⟨rfl, _, rfl⟩, H51.sep.sub (by repeat (first | exact S1 | exact S0 | apply S2 | apply S3))⟩) | (have hz := Auction.e_full (floor := floor) (xs := (Auction.of L y.round)) hc2 hl2 hf2 hfr (by omega); rw [show (Auction.more floor L y now) = L by unfold Auction.more; rw [hz.1]; first | rw [if_neg (by decide)] | rw [if_neg hc1], hz.1]; exact ⟨_, _, rfl, ⟨rfl, _, rfl⟩, H51.sep.sub (by repeat (first | exact S1 | exact S0 | apply S2 | apply S3))⟩) | (have hz := Auction.e_ok (floor := floor) (xs := (Auction.of L y.round)) hc2 hl2 hf2 hfr (by omega); rw [show (Auction.more floor L y now) = L ++ [y] by unfold Auction.more; rw [hz.1, if_pos rfl], hz.1]; refine ⟨_, _, rfl, ⟨rfl, .slice ArW (L.length + 1) crW, rfl⟩, ?_⟩; rw [Auction.bdc_append, Auction.bdc_one, List.length_append]; exact (H51.only (is := [It.row 30 36 (.slice ArW (L.length + 1) crW) (L.length + 1) (Auction.bdc L ++ Note.Bid.cells y), It.blk x 81 [i64 floor, (.slice ArW (L.length + 1) crW)]]) (.cons (by repeat (first | exact Ph | apply Pt)) (.cons (by repeat (first | exact Ph | apply Pt)) (.nil _)))).sep)
          · skip
            try simp only [decide_eq_true_eq, decide_eq_false_iff_not, Bool.not_eq_true', Bool.not_eq_false', Bool.and_eq_true, Bool.not_eq_true, Bool.not_eq_false] at hc50
            have ht2 := hc50
            refine wp_skip ?_
            refine inb_n ?_
            refine then_n ?_
            refine reg ?_
            refine plain (y_move rfl rfl) rfl rfl rfl H49 ?_
            clear H49; intro a52 H52
            refine plain (y_add rfl rfl rfl (by first | exact w64 (by omega) (by omega) | rfl)) rfl rfl rfl H52 ?_
            clear H52; intro a53 H53
            refine plain (y_assign rfl rfl) rfl rfl rfl H53 ?_
            clear H53; intro a54 H54
            refine fin ?_
            refine then_n ?_
            refine ⟨k + 1, by omega, ⟨by omega, fun j hj => ?_⟩, H54.weak ⟨rfl, rfl, rfl, rfl, rfl, fi rfl (by omega), trivial⟩ rfl⟩
            by_cases e : j = k
            · subst e; exact ht2
            · exact hne j (by omega)
        · skip
          try simp only [decide_eq_true_eq, decide_eq_false_iff_not, Bool.not_eq_true', Bool.not_eq_false', Bool.and_eq_true, Bool.not_eq_true, Bool.not_eq_false] at hc39
          refine wp_exit ?_
          refine then_x ?_
          refine then_x ?_
          refine inb_hit ?_
          refine then_n ?_
          refine wp_seq ?_
          refine wp_seq ?_
          have hfr : Auction.fresh (Auction.of L y.round) y := Auction.fresh_at (by omega) hne
          refine reg ?_
          refine plain (y_move rfl rfl) rfl rfl rfl H38 ?_
          clear H38; intro a55 H55
          refine plain (y_len rfl Tryd.underlying22 rfl) rfl rfl rfl H55 ?_
          clear H55; intro a56 H56
          refine plain (y_geq rfl rfl rfl) rfl rfl rfl H56 ?_
          clear H56; intro a57 H57
          refine fin ?_
          refine then_n ?_
          refine cnd H57 rfl (fun hc58 => ?_) (fun hc58 => ?_) -- cond 6
          · skip
            try simp only [decide_eq_true_eq, decide_eq_false_iff_not, Bool.not_eq_true', Bool.not_eq_false', Bool.and_eq_true, Bool.not_eq_true, Bool.not_eq_false] at hc58
            refine wp_seq ?_
            refine reg ?_
            refine plain (y_assign rfl rfl) rfl rfl rfl H57 ?_
            clear H57; intro a59 H59
            refine fin ?_
            refine then_n ?_
            refine wp_ret ?_
            refine then_r ?_
            -- return 5
            refine ret1 rfl H59 rfl ?_
            first | (have hz := Auction.e_chk (floor := floor) (xs := (Auction.of L y.round)) (now := now) hc1; rw [show (Auction.more floor L y now) = L by unfold Auction.more; rw [hz.1]; first | rw [if_neg (by decide)] | rw [if_neg hc1], hz.1]; exact ⟨_, _, rfl, ⟨rfl, _, rfl⟩, H59.sep.sub (by repeat (first | exact S1 | exact S0 | apply S2 | apply S3))⟩) | (have hz := Auction.e_late (floor := floor) (xs := (Auction.of L y.round)) hc2 hl1; rw [show (Auction.more floor L y now) = L by unfold Auction.more; rw [hz.1]; first | rw [if_neg (by decide)] | rw [if_neg hc1], hz.1]; exact ⟨_, _, rfl, ⟨rfl, _, rfl⟩, H59.sep.sub (by repeat (first | exact S1 | exact S0 | apply S2 | apply S3))⟩) | (have hz := Auction.e_fee (floor := floor) (xs := (Auction.of L y.round)) hc2 hl2 hf1; rw [show (Auction.more floor L y now) = L by unfold Auction.more; rw [hz.1]; first | rw [if_neg (by decide)] | rw [if_neg hc1], hz.1]; exact ⟨_, _, rfl, ⟨rfl, _, rfl⟩, H59.sep.sub (by repeat (first | exact S1 | exact S0 | apply S2 | apply S3))⟩) | (have hz := Auction.e_twice (floor := floor) (xs := (Auction.of L y.round)) hc2 hl2 hf2 (Auction.not_fresh hkl ht1); rw [show (Auction.more floor L y now) = L by unfold Auction.more; rw [hz.1]; first | rw [if_neg (by decide)] | rw [if_neg hc1], hz.1]; exact ⟨_, _, rfl, ⟨rfl, _, rfl⟩, H59.sep.sub (by repeat (first | exact S1 | exact S0 | apply S2 | apply S3))⟩) | (have hz := Auction.e_full (floor := floor) (xs := (Auction.of L y.round)) hc2 hl2 hf2 hfr (by omega); rw [show (Auction.more floor L y now) = L by unfold Auction.more; rw [hz.1]; first | rw [if_neg (by decide)] | rw [if_neg hc1], hz.1]; exact ⟨_, _, rfl, ⟨rfl, _, rfl⟩, H59.sep.sub (by repeat (first | exact S1 | exact S0 | apply S2 | apply S3))⟩) | (have hz := Auction.e_ok (floor := floor) (xs := (Auction.of L y.round)) hc2 hl2 hf2 hfr (by omega); rw [show (Auction.more floor L y now) = L ++ [y] by unfold Auction.more; rw [hz.1, if_pos rfl], hz.1]; refine ⟨_, _, rfl, ⟨rfl, .slice ArW (L.length + 1) crW, rfl⟩, ?_⟩; rw [Auction.bdc_append, Auction.bdc_one, List.length_append]; exact (H59.only (is := [It.row 30 36 (.slice ArW (L.length + 1) crW) (L.length + 1) (Auction.bdc L ++ Note.Bid.cells y), It.blk x 81 [i64 floor, (.slice ArW (L.length + 1) crW)]]) (.cons (by repeat (first | exact Ph | apply Pt)) (.cons (by repeat (first | exact Ph | apply Pt)) (.nil _)))).sep)
          · skip
            try simp only [decide_eq_true_eq, decide_eq_false_iff_not, Bool.not_eq_true', Bool.not_eq_false', Bool.and_eq_true, Bool.not_eq_true, Bool.not_eq_false] at hc58
            refine wp_skip ?_
            refine then_n ?_
            refine wp_seq ?_
            refine hreg [It.blk b1 30 (Note.Bid.cells y)] (fun _ h => (h.sub (by first | exact S0 | exact S1 | repeat (first | exact S1 | exact S0 | apply S2 | apply S3)))) (by kernel_rfl) H57 ?_
            clear H57; intro wx60 H60
            refine htake 0 rfl (by kernel_rfl) (y_move rfl rfl) rfl rfl rfl (fun _ h => (h.sub (by first | exact S0 | exact S1 | repeat (first | exact S1 | exact S0 | apply S2 | apply S3)))) H60 ?_
            clear H60; intro a61 H61
            refine htake 1 rfl (by kernel_rfl) (y_move rfl rfl) rfl rfl rfl (fun _ h => (h.sub (by first | exact S0 | exact S1 | repeat (first | exact S1 | exact S0 | apply S2 | apply S3)))) H61 ?_
            clear H61; intro a62 H62
            refine htake 2 rfl (by kernel_rfl) (y_nilCheck rfl rfl) rfl rfl rfl (fun _ h => (h.sub (by first | exact S0 | exact S1 | repeat (first | exact S1 | exact S0 | apply S2 | apply S3)))) H62 ?_
            clear H62; intro a63 H63
            refine htake 3 rfl (by kernel_rfl) (y_fieldB rfl z_field81_1 rfl (by first | (simp only [Nat.zero_add, Nat.add_zero, Nat.reduceAdd]; rfl) | rfl)) rfl rfl rfl (fun _ h => (h.sub (by first | exact S0 | exact S1 | repeat (first | exact S1 | exact S0 | apply S2 | apply S3)))) H63 ?_
            clear H63; intro a64 H64
            refine htake 5 rfl (by kernel_rfl) (y_loadAB rfl z_agg30 z_size30 rfl (by repeat (first | exact Mh | apply Mt)) (q_ld_c4b32_0_36 (by assumption)) (q_len_c4b32 (by assumption))) rfl rfl rfl (fun _ h => (h.sub (by first | exact S0 | exact S1 | repeat (first | exact S1 | exact S0 | apply S2 | apply S3)))) H64 ?_
            clear H64; intro a65 H65
            refine hgo2 4 6 rfl rfl (by kernel_rfl) ?_ ?_
            · skip
              refine plain (y_loadB rfl z_agg22 rfl (by repeat (first | exact Mh | apply Mt)) q_ix_c2_1) rfl rfl rfl H65 ?_
              clear H65; intro a66 H66
              refine hfinA H66.sep ?_
              refine hgo 6 rfl (by kernel_rfl) ?_
              refine st_buildSlice rfl Tryd.underlying22 z_size30 z_zero30 rfl rfl rfl (lay_agg (agg_cells _) (Auction.bid_len hty) (by simp)) rfl rfl rfl H66 ?_
              clear H66; intro b67 a67 wx67 H67
              refine hfinA H67.sep ?_
              refine hgo 7 rfl (by kernel_rfl) ?_
              refine st_append rfl z_slice22 z_notint22 rfl rfl (fun _ => (by repeat (first | exact Uh | apply Ut))) (fun w hs => Src.slice ((rd_blkA (by repeat (first | exact Mh | apply Mt))) w hs) (Auction.bid_len hty) (Auction.bid_cell _)) (by unfold maxLen at *; omega) (by omega) rfl rfl rfl H67 ?_
              clear H67; intro v68 a68 wx68 hnil68 H68
              obtain ⟨ArW, crW, hvrW, hRrW, hmrW⟩ := row_shape (v := v68) H68.sep (by repeat (first | exact Mh | apply Mt))
              subst hvrW
              refine hfinA H68.sep ?_
              refine htake 8 rfl (by kernel_rfl) (y_nilCheck rfl rfl) rfl rfl rfl (fun _ h => (h.sub (by first | exact S0 | exact S1 | repeat (first | exact S1 | exact S0 | apply S2 | apply S3)))) H68 ?_
              clear H68; intro a69 H69
              refine htake 9 rfl (by kernel_rfl) (y_fieldB rfl z_field81_1 rfl (by first | (simp only [Nat.zero_add, Nat.add_zero, Nat.reduceAdd]; rfl) | rfl)) rfl rfl rfl (fun _ h => (h.sub (by first | exact S0 | exact S1 | repeat (first | exact S1 | exact S0 | apply S2 | apply S3)))) H69 ?_
              clear H69; intro a70 H70
              refine hgo 10 rfl (by kernel_rfl) ?_
              refine st_store1N rfl z_size22 rfl rfl rfl (by repeat (first | exact Uh | apply Ut)) q_len_c2 q_set_c2_1 (by decide) rfl rfl H70 ?_
              clear H70; intro wx71 H71
              refine hfinA H71.sep ?_
              refine hdone (by kernel_rfl) ?_
              refine then_n ?_
              refine wp_seq ?_
              refine reg ?_
              refine plain (y_assign rfl rfl) rfl rfl rfl H71 ?_
              clear H71; intro a72 H72
              refine fin ?_
              refine then_n ?_
              refine wp_ret ?_
              -- return 6
              refine ret1 rfl H72 rfl ?_
              first | (have hz := Auction.e_chk (floor := floor) (xs := (Auction.of L y.round)) (now := now) hc1; rw [show (Auction.more floor L y now) = L by unfold Auction.more; rw [hz.1]; first | rw [if_neg (by decide)] | rw [if_neg hc1], hz.1]; exact ⟨_, _, rfl, ⟨rfl, _, rfl⟩, H72.sep.sub (by repeat (first | exact S1 | exact S0 | apply S2 | apply S3))⟩) | (have hz := Auction.e_late (floor := floor) (xs := (Auction.of L y.round)) hc2 hl1; rw [show (Auction.more floor L y now) = L by unfold Auction.more; rw [hz.1]; first | rw [if_neg (by decide)] | rw [if_neg hc1], hz.1]; exact ⟨_, _, rfl, ⟨rfl, _, rfl⟩, H72.sep.sub (by repeat (first | exact S1 | exact S0 | apply S2 | apply S3))⟩) | (have hz := Auction.e_fee (floor := floor) (xs := (Auction.of L y.round)) hc2 hl2 hf1; rw [show (Auction.more floor L y now) = L by unfold Auction.more; rw [hz.1]; first | rw [if_neg (by decide)] | rw [if_neg hc1], hz.1]; exact ⟨_, _, rfl, ⟨rfl, _, rfl⟩, H72.sep.sub (by repeat (first | exact S1 | exact S0 | apply S2 | apply S3))⟩) | (have hz := Auction.e_twice (floor := floor) (xs := (Auction.of L y.round)) hc2 hl2 hf2 (Auction.not_fresh hkl ht1); rw [show (Auction.more floor L y now) = L by unfold Auction.more; rw [hz.1]; first | rw [if_neg (by decide)] | rw [if_neg hc1], hz.1]; exact ⟨_, _, rfl, ⟨rfl, _, rfl⟩, H72.sep.sub (by repeat (first | exact S1 | exact S0 | apply S2 | apply S3))⟩) | (have hz := Auction.e_full (floor := floor) (xs := (Auction.of L y.round)) hc2 hl2 hf2 hfr (by omega); rw [show (Auction.more floor L y now) = L by unfold Auction.more; rw [hz.1]; first | rw [if_neg (by decide)] | rw [if_neg hc1], hz.1]; exact ⟨_, _, rfl, ⟨rfl, _, rfl⟩, H72.sep.sub (by repeat (first | exact S1 | exact S0 | apply S2 | apply S3))⟩) | (have hz := Auction.e_ok (floor := floor) (xs := (Auction.of L y.round)) hc2 hl2 hf2 hfr (by omega); rw [show (Auction.more floor L y now) = L ++ [y] by unfold Auction.more; rw [hz.1, if_pos rfl], hz.1]; refine ⟨_, _, rfl, ⟨rfl, .slice ArW (L.length + 1) crW, rfl⟩, ?_⟩; rw [Auction.bdc_append, Auction.bdc_one, List.length_append]; exact (H72.only (is := [It.row 30 36 (.slice ArW (L.length + 1) crW) (L.length + 1) (Auction.bdc L ++ Note.Bid.cells y), It.blk x 81 [i64 floor, (.slice ArW (L.length + 1) crW)]]) (.cons (by repeat (first | exact Ph | apply Pt)) (.cons (by repeat (first | exact Ph | apply Pt)) (.nil _)))).sep)
            · skip
              refine st_buildSlice rfl Tryd.underlying22 z_size30 z_zero30 rfl rfl rfl (lay_agg (agg_cells _) (Auction.bid_len hty) (by simp)) rfl rfl rfl H65 ?_
              clear H65; intro b73 a73 wx73 H73
              refine hfinA H73.sep ?_
              refine hgo 4 rfl (by kernel_rfl) ?_
              refine plain (y_loadB rfl z_agg22 rfl (by repeat (first | exact Mh | apply Mt)) q_ix_c2_1) rfl rfl rfl H73 ?_
              clear H73; intro a74 H74
              refine hfinA H74.sep ?_
              refine hgo 7 rfl (by kernel_rfl) ?_
              refine st_append rfl z_slice22 z_notint22 rfl rfl (fun _ => (by repeat (first | exact Uh | apply Ut))) (fun w hs => Src.slice ((rd_blkA (by repeat (first | exact Mh | apply Mt))) w hs) (Auction.bid_len hty) (Auction.bid_cell _)) (by unfold maxLen at *; omega) (by omega) rfl rfl rfl H74 ?_
              clear H74; intro v75 a75 wx75 hnil75 H75
              obtain ⟨ArW, crW, hvrW, hRrW, hmrW⟩ := row_shape (v := v75) H75.sep (by repeat (first | exact Mh | apply Mt))
              subst hvrW
              refine hfinA H75.sep ?_
              refine htake 8 rfl (by kernel_rfl) (y_nilCheck rfl rfl) rfl rfl rfl (fun _ h => (h.sub (by first | exact S0 | exact S1 | repeat (first | exact S1 | exact S0 | apply S2 | apply S3)))) H75 ?_
              clear H75; intro a76 H76
              refine htake 9 rfl (by kernel_rfl) (y_fieldB rfl z_field81_1 rfl (by first | (simp only [Nat.zero_add, Nat.add_zero, Nat.reduceAdd]; rfl) | rfl)) rfl rfl rfl (fun _ h => (h.sub (by first | exact S0 | exact S1 | repeat (first | exact S1 | exact S0 | apply S2 | apply S3)))) H76 ?_
              clear H76; intro a77 H77
              refine hgo 10 rfl (by kernel_rfl) ?_
              refine st_store1N rfl z_size22 rfl rfl rfl (by repeat (first | exact Uh | apply Ut)) q_len_c2 q_set_c2_1 (by decide) rfl rfl H77 ?_
              clear H77; intro wx78 H78
              refine hfinA H78.sep ?_
              refine hdone (by kernel_rfl) ?_
              refine then_n ?_
              refine wp_seq ?_
              refine reg ?_
              refine plain (y_assign rfl rfl) rfl rfl rfl H78 ?_
              clear H78; intro a79 H79
              refine fin ?_
              refine then_n ?_
              refine wp_ret ?_
              -- return 7
              refine ret1 rfl H79 rfl ?_
              first | (have hz := Auction.e_chk (floor := floor) (xs := (Auction.of L y.round)) (now := now) hc1; rw [show (Auction.more floor L y now) = L by unfold Auction.more; rw [hz.1]; first | rw [if_neg (by decide)] | rw [if_neg hc1], hz.1]; exact ⟨_, _, rfl, ⟨rfl, _, rfl⟩, H79.sep.sub (by repeat (first | exact S1 | exact S0 | apply S2 | apply S3))⟩) | (have hz := Auction.e_late (floor := floor) (xs := (Auction.of L y.round)) hc2 hl1; rw [show (Auction.more floor L y now) = L by unfold Auction.more; rw [hz.1]; first | rw [if_neg (by decide)] | rw [if_neg hc1], hz.1]; exact ⟨_, _, rfl, ⟨rfl, _, rfl⟩, H79.sep.sub (by repeat (first | exact S1 | exact S0 | apply S2 | apply S3))⟩) | (have hz := Auction.e_fee (floor := floor) (xs := (Auction.of L y.round)) hc2 hl2 hf1; rw [show (Auction.more floor L y now) = L by unfold Auction.more; rw [hz.1]; first | rw [if_neg (by decide)] | rw [if_neg hc1], hz.1]; exact ⟨_, _, rfl, ⟨rfl, _, rfl⟩, H79.sep.sub (by repeat (first | exact S1 | exact S0 | apply S2 | apply S3))⟩) | (have hz := Auction.e_twice (floor := floor) (xs := (Auction.of L y.round)) hc2 hl2 hf2 (Auction.not_fresh hkl ht1); rw [show (Auction.more floor L y now) = L by unfold Auction.more; rw [hz.1]; first | rw [if_neg (by decide)] | rw [if_neg hc1], hz.1]; exact ⟨_, _, rfl, ⟨rfl, _, rfl⟩, H79.sep.sub (by repeat (first | exact S1 | exact S0 | apply S2 | apply S3))⟩) | (have hz := Auction.e_full (floor := floor) (xs := (Auction.of L y.round)) hc2 hl2 hf2 hfr (by omega); rw [show (Auction.more floor L y now) = L by unfold Auction.more; rw [hz.1]; first | rw [if_neg (by decide)] | rw [if_neg hc1], hz.1]; exact ⟨_, _, rfl, ⟨rfl, _, rfl⟩, H79.sep.sub (by repeat (first | exact S1 | exact S0 | apply S2 | apply S3))⟩) | (have hz := Auction.e_ok (floor := floor) (xs := (Auction.of L y.round)) hc2 hl2 hf2 hfr (by omega); rw [show (Auction.more floor L y now) = L ++ [y] by unfold Auction.more; rw [hz.1, if_pos rfl], hz.1]; refine ⟨_, _, rfl, ⟨rfl, .slice ArW (L.length + 1) crW, rfl⟩, ?_⟩; rw [Auction.bdc_append, Auction.bdc_one, List.length_append]; exact (H79.only (is := [It.row 30 36 (.slice ArW (L.length + 1) crW) (L.length + 1) (Auction.bdc L ++ Note.Bid.cells y), It.blk x 81 [i64 floor, (.slice ArW (L.length + 1) crW)]]) (.cons (by repeat (first | exact Ph | apply Pt)) (.cons (by repeat (first | exact Ph | apply Pt)) (.nil _)))).sep)
set_option maxRecDepth 100000 in
set_option maxHeartbeats 1000000 in
theorem xsame (L : List Note.Bid) (hL : Auction.Wfb L) (A B : Option Addr) (c e : Nat) (hlen : L.length ≤ 1000) {w : World} (hR : Rd w A (Auction.bdc L)) (hR2 : Rd w B (Auction.bdc L)) : Calls Tryd.prog 36 #[.slice A L.length c, .slice B L.length e] w (Gives (.bool true) [] w) := by
  have lz32 : (List.replicate 32 (0 : UInt8)).length = 32 := List.length_replicate
  refine enterL (args := [.slice A L.length c, .slice B L.length e]) Tryd.func36 rfl rfl (l := []) (Sep.refl _) ?_
  intro a0 H0
  refine wp_seq ?_
  refine reg ?_
  refine plain (y_assign rfl rfl) rfl rfl rfl H0 ?_
  clear H0; intro a1 H1
  refine fin ?_
  refine then_n ?_
  refine wp_seq ?_
  refine wp_seq ?_
  refine reg ?_
  refine plain (y_move rfl rfl) rfl rfl rfl H1 ?_
  clear H1; intro a2 H2
  refine plain (y_len rfl Tryd.underlying22 rfl) rfl rfl rfl H2 ?_
  clear H2; intro a3 H3
  refine plain (y_move rfl rfl) rfl rfl rfl H3 ?_
  clear H3; intro a4 H4
  refine plain (y_len rfl Tryd.underlying22 rfl) rfl rfl rfl H4 ?_
  clear H4; intro a5 H5
  refine plain (y_neq rfl rfl rfl) rfl rfl rfl H5 ?_
  clear H5; intro a6 H6
  refine fin ?_
  refine then_n ?_
  refine cnd H6 rfl (fun hc7 => ?_) (fun hc7 => ?_) -- cond 1
  · (try simp only [decide_eq_true_eq, decide_eq_false_iff_not, Bool.not_eq_true', Bool.not_eq_false', Bool.and_eq_true, Bool.not_eq_true, Bool.not_eq_false] at hc7); (exfalso; first | exact hc7 rfl | exact hc7 trivial | simp at hc7)
  · skip
    try simp only [decide_eq_true_eq, decide_eq_false_iff_not, Bool.not_eq_true', Bool.not_eq_false', Bool.and_eq_true, Bool.not_eq_true, Bool.not_eq_false] at hc7
    refine wp_skip ?_
    refine then_n ?_
    refine wp_seq ?_
    refine wp_seq ?_
    refine reg ?_
    refine plain (y_assign rfl rfl) rfl rfl rfl H6 ?_
    clear H6; intro a8 H8
    refine fin ?_
    refine then_n ?_
    refine wp_block ?_
    refine loop (ι := Nat) (fun k => [(0, .slice A L.length c), (1, .slice B L.length e), (5, .int .i64 (k : Int))]) (fun k => []) (fun k => k ≤ L.length) (fun k => L.length - k) (0) (Nat.zero_le _) (H8.weak ⟨rfl, rfl, rfl, trivial⟩ rfl) ?_
    clear H8; intro k a9 wx9 hok9 H9
    have hok := hok9
    refine wp_seq ?_
    refine wp_seq ?_
    refine reg ?_
    refine plain (y_move rfl rfl) rfl rfl rfl H9 ?_
    clear H9; intro a10 H10
    refine plain (y_move rfl rfl) rfl rfl rfl H10 ?_
    clear H10; intro a11 H11
    refine plain (y_len rfl Tryd.underlying22 rfl) rfl rfl rfl H11 ?_
    clear H11; intro a12 H12
    refine plain (y_lss rfl rfl rfl) rfl rfl rfl H12 ?_
    clear H12; intro a13 H13
    refine fin ?_
    refine then_n ?_
    refine cnd H13 rfl (fun hc14 => ?_) (fun hc14 => ?_) -- cond 2
    · skip
      try simp only [decide_eq_true_eq, decide_eq_false_iff_not, Bool.not_eq_true', Bool.not_eq_false', Bool.and_eq_true, Bool.not_eq_true, Bool.not_eq_false] at hc14
      refine wp_skip ?_
      refine then_n ?_
      refine wp_seq ?_
      refine wp_block ?_
      refine wp_seq ?_
      have hkl : k < L.length := by omega
      have hwk := Auction.atD hL hkl
      have htg := hwk.tag
      refine qreg (by kernel_rfl) (by kernel_rfl) H13 ?_
      have F15 := H13.fr
      clear H13
      refine qplain (y_move rfl rfl) rfl rfl rfl F15 ?_
      clear F15; intro a16 H16
      refine qplain (y_move rfl rfl) rfl rfl rfl H16 ?_
      clear H16; intro a17 H17
      refine qplain (y_ixR rfl Tryd.underlying22 z_size30 rfl rfl (by omega) (by omega) (rd_old hR (by simp)) (by rw [Auction.bdc_len hL]; omega)) rfl rfl rfl H17 ?_
      clear H17; intro a18 H18
      refine qplain (y_loadAS rfl z_agg30 z_size30 rfl (rd_old hR (by simp)) (show _ = Note.Bid.cells (L.getD k Note.Bid.zero) from Auction.bdc_take hL k (by omega)) (Auction.bid_len htg) (by decide)) rfl rfl rfl H18 ?_
      clear H18; intro a19 H19
      refine qplain (y_move rfl rfl) rfl rfl rfl H19 ?_
      clear H19; intro a20 H20
      refine qplain (y_move rfl rfl) rfl rfl rfl H20 ?_
      clear H20; intro a21 H21
      refine qplain (y_ixR rfl Tryd.underlying22 z_size30 rfl rfl (by omega) (by omega) (rd_old hR2 (by simp)) (by rw [Auction.bdc_len hL]; omega)) rfl rfl rfl H21 ?_
      clear H21; intro a22 H22
      refine qplain (y_loadAS rfl z_agg30 z_size30 rfl (rd_old hR2 (by simp)) (show _ = Note.Bid.cells (L.getD k Note.Bid.zero) from Auction.bdc_take hL k (by omega)) (Auction.bid_len htg) (by decide)) rfl rfl rfl H22 ?_
      clear H22; intro a23 H23
      refine qplain (y_tneq rfl (by kernel_rfl) rfl rfl (eqr_Bid (L.getD k Note.Bid.zero) (L.getD k Note.Bid.zero) htg htg)) rfl rfl rfl H23 ?_
      clear H23; intro a24 H24
      refine qfin H24 ?_
      clear H24; intro wx25 H25
      refine then_n ?_
      refine cnd H25 rfl (fun hc26 => ?_) (fun hc26 => ?_) -- cond 3
      · (try simp only [decide_eq_true_eq, decide_eq_false_iff_not, Bool.not_eq_true', Bool.not_eq_false', Bool.and_eq_true, Bool.not_eq_true, Bool.not_eq_false] at hc26); (exfalso; first | exact hc26 rfl | exact hc26 trivial | simp at hc26)
      · skip
        try simp only [decide_eq_true_eq, decide_eq_false_iff_not, Bool.not_eq_true', Bool.not_eq_false', Bool.and_eq_true, Bool.not_eq_true, Bool.not_eq_false] at hc26
        refine wp_skip ?_
        refine inb_n ?_
        refine then_n ?_
        refine reg ?_
        refine plain (y_move rfl rfl) rfl rfl rfl H25 ?_
        clear H25; intro a27 H27
        refine plain (y_add rfl rfl rfl (by first | exact w64 (by omega) (by omega) | rfl)) rfl rfl rfl H27 ?_
        clear H27; intro a28 H28
        refine plain (y_assign rfl rfl) rfl rfl rfl H28 ?_
        clear H28; intro a29 H29
        refine fin ?_
        refine then_n ?_
        refine ⟨k + 1, by omega, by omega, H29.weak ⟨rfl, rfl, fi rfl (by omega), trivial⟩ rfl⟩
    · skip
      try simp only [decide_eq_true_eq, decide_eq_false_iff_not, Bool.not_eq_true', Bool.not_eq_false', Bool.and_eq_true, Bool.not_eq_true, Bool.not_eq_false] at hc14
      refine wp_exit ?_
      refine then_x ?_
      refine then_x ?_
      refine inb_hit ?_
      refine then_n ?_
      refine wp_seq ?_
      refine reg ?_
      refine plain (y_assign rfl rfl) rfl rfl rfl H13 ?_
      clear H13; intro a30 H30
      refine fin ?_
      refine then_n ?_
      refine wp_ret ?_
      -- return 1
      refine ret1 rfl H30 rfl ?_
      exact ⟨_, [], rfl, ⟨rfl, rfl⟩, H30.sep.sub (List.nil_sublist _)⟩

end Go.Proofs.YtaeahloenahelaaDoor.A_Xb1
