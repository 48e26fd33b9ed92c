/- Part of a proof about given Go functions: contracts of functions, or plain laws. -/
import Derived.Test.YtaeahloenahelaaDoorAuctionV
import Derived.Test.YtaeahloenahelaaDoorSxI
import Derived.Test.YtaeahloenahelaaDoorSxN
import Derived.Test.YtaeahloenahelaaDoorSxK
import Derived.Test.YtaeahloenahelaaDoorSxM
import Derived.Test.YtaeahloenahelaaDoorProg
import Derived.Test.YtaeahloenahelaaDoorW1
import Derived.Test.YtaeahloenahelaaDoorW2
import Derived.Test.YtaeahloenahelaaDoorSxTx
set_option linter.unusedVariables false
set_option linter.unusedSimpArgs false
namespace Go.Proofs.YtaeahloenahelaaDoor.A_Law
open Go.Sx Go.RowKit Go.Proofs.YtaeahloenahelaaDoor.A_Block Go.Proofs.YtaeahloenahelaaDoor.A_Sum Go.Proofs.YtaeahloenahelaaDoor.A_Ref Go.Proofs.YtaeahloenahelaaDoor.A_RSum Go.Proofs.YtaeahloenahelaaDoor.A_Leaf Go.Proofs.YtaeahloenahelaaDoor.A_Num Go.Proofs.YtaeahloenahelaaDoor.A_Key Go.Proofs.YtaeahloenahelaaDoor.A_Ref Go.Proofs.YtaeahloenahelaaDoor.A_RSum Go.Proofs.YtaeahloenahelaaDoor.A_Tag Go.Proofs.YtaeahloenahelaaDoor.A_Lay Go.Proofs.YtaeahloenahelaaDoor.A_Eq Go.Proofs.YtaeahloenahelaaDoor.A_Ref0 Go.Proofs.YtaeahloenahelaaDoor.A_Sign Go.Proofs.YtaeahloenahelaaDoor.A_RefB Go.Proofs.YtaeahloenahelaaDoor.A_Win

theorem z_size30 : sizeB Tryd.prog 30 = some 36 := by kernel_rfl
theorem z_zeroN30 : zeroL Tryd.prog 30 = some ((.int .i64 0 :: (.int .i64 0 :: (.int .i64 0 :: (.int .i64 0 :: (List.replicate 32 (0 : UInt8)).map u8))))) := by kernel_rfl
theorem z_places30 : placesB Tryd.prog 30 = some [(0, 1), (1, 1), (2, 1), (3, 1), (4, 32)] := by kernel_rfl
theorem q_len_c4b32 {a0 a1 a2 a3 : Value} {t4 : List UInt8} (h4 : t4.length = 32) : (a0 :: a1 :: a2 :: a3 :: t4.map u8).length = 36 := (len_c (n := 35) (len_c (n := 34) (len_c (n := 33) (len_c (n := 32) (len_e (k := 32) h4)))))
theorem q_spl_c4b32_0_c1 {a0 a1 a2 a3 : Value} {t4 : List UInt8} {b0 : Value} : spl (a0 :: a1 :: a2 :: a3 :: t4.map u8) 0 (b0 :: []) = b0 :: a1 :: a2 :: a3 :: t4.map u8 := spl_0
theorem q_spl_c4b32_1_c1 {a0 a1 a2 a3 : Value} {t4 : List UInt8} {b0 : Value} : spl (a0 :: a1 :: a2 :: a3 :: t4.map u8) 1 (b0 :: []) = a0 :: b0 :: a2 :: a3 :: t4.map u8 := (spl_c (o := 0) spl_0)
theorem q_spl_c4b32_2_c1 {a0 a1 a2 a3 : Value} {t4 : List UInt8} {b0 : Value} : spl (a0 :: a1 :: a2 :: a3 :: t4.map u8) 2 (b0 :: []) = a0 :: a1 :: b0 :: a3 :: t4.map u8 := (spl_c (o := 1) (spl_c (o := 0) spl_0))
theorem z_call50 : callB Tryd.prog 50 = true := by kernel_rfl
theorem q_one_c4b32 {a0 a1 a2 a3 : Value} {t4 : List UInt8} (o0 : a0.oneCell' = true) (o1 : a1.oneCell' = true) (o2 : a2.oneCell' = true) (o3 : a3.oneCell' = true) : (a0 :: a1 :: a2 :: a3 :: t4.map u8).all (·.oneCell') = true := (one_c o0 (one_c o1 (one_c o2 (one_c o3 (one_u8 _)))))
theorem q_spl_c4b32_0_c4b32 {a0 a1 a2 a3 : Value} {t4 : List UInt8} {b0 b1 b2 b3 : Value} {s4 : List UInt8} (h4 : t4.length = 32) (g4 : s4.length = 32) : spl (a0 :: a1 :: a2 :: a3 :: t4.map u8) 0 (b0 :: b1 :: b2 :: b3 :: s4.map u8) = b0 :: b1 :: b2 :: b3 :: s4.map u8 := (spl_a (z := 36) (len_c (n := 35) (len_c (n := 34) (len_c (n := 33) (len_c (n := 32) (len_e (k := 32) h4))))) (len_c (n := 35) (len_c (n := 34) (len_c (n := 33) (len_c (n := 32) (len_e (k := 32) g4))))))
theorem z_agg30 : aggB Tryd.prog 30 = some true := by kernel_rfl
theorem q_ld_c4b32_0_36 {a0 a1 a2 a3 : Value} {t4 : List UInt8} (h4 : t4.length = 32) : ((a0 :: a1 :: a2 :: a3 :: t4.map u8).drop 0).take 36 = a0 :: a1 :: a2 :: a3 :: t4.map u8 := (ld_a (len_c (n := 35) (len_c (n := 34) (len_c (n := 33) (len_c (n := 32) (len_e (k := 32) h4))))))
theorem z_zero30 : zeroL Tryd.prog 30 = some ([.int .i64 0, .int .i64 0, .int .i64 0, .int .i64 0, .int .u8 0, .int .u8 0, .int .u8 0, .int .u8 0, .int .u8 0, .int .u8 0, .int .u8 0, .int .u8 0, .int .u8 0, .int .u8 0, .int .u8 0, .int .u8 0, .int .u8 0, .int .u8 0, .int .u8 0, .int .u8 0, .int .u8 0, .int .u8 0, .int .u8 0, .int .u8 0, .int .u8 0, .int .u8 0, .int .u8 0, .int .u8 0, .int .u8 0, .int .u8 0, .int .u8 0, .int .u8 0, .int .u8 0, .int .u8 0, .int .u8 0, .int .u8 0]) := by kernel_rfl
theorem z_size3 : sizeB Tryd.prog 3 = some 1 := by kernel_rfl
theorem z_zero3 : zeroL Tryd.prog 3 = some ([.int .i64 0]) := by kernel_rfl
theorem z_call13 : callB Tryd.prog 13 = true := by kernel_rfl
theorem z_zeroN32 : zeroL Tryd.prog 32 = some ((.int .i64 0 :: (.int .i64 0 :: (.int .i64 0 :: (.int .i64 0 :: ((List.replicate 32 (0 : UInt8)).map u8 ++ (.int .i64 0 :: []))))))) := by kernel_rfl
theorem z_size32 : sizeB Tryd.prog 32 = some 37 := by kernel_rfl
theorem q_one_c4b32c1 {a0 a1 a2 a3 a5 : Value} {t4 : List UInt8} (o0 : a0.oneCell' = true) (o1 : a1.oneCell' = true) (o2 : a2.oneCell' = true) (o3 : a3.oneCell' = true) (o5 : a5.oneCell' = true) : (a0 :: a1 :: a2 :: a3 :: (t4.map u8 ++ (a5 :: []))).all (·.oneCell') = true := (one_c o0 (one_c o1 (one_c o2 (one_c o3 (one_b (one_c o5 one_n))))))
theorem q_len_c4b32c1 {a0 a1 a2 a3 a5 : Value} {t4 : List UInt8} (h4 : t4.length = 32) : (a0 :: a1 :: a2 :: a3 :: (t4.map u8 ++ (a5 :: []))).length = 37 := (len_c (n := 36) (len_c (n := 35) (len_c (n := 34) (len_c (n := 33) (len_b (k := 32) (n := 1) h4 (len_c (n := 0) len_n))))))
theorem q_spl_c4b32c1_0_c4b32c1 {a0 a1 a2 a3 a5 : Value} {t4 : List UInt8} {b0 b1 b2 b3 b5 : Value} {s4 : List UInt8} (h4 : t4.length = 32) (g4 : s4.length = 32) : spl (a0 :: a1 :: a2 :: a3 :: (t4.map u8 ++ (a5 :: []))) 0 (b0 :: b1 :: b2 :: b3 :: (s4.map u8 ++ (b5 :: []))) = b0 :: b1 :: b2 :: b3 :: (s4.map u8 ++ (b5 :: [])) := (spl_a (z := 37) (len_c (n := 36) (len_c (n := 35) (len_c (n := 34) (len_c (n := 33) (len_b (k := 32) (n := 1) h4 (len_c (n := 0) len_n)))))) (len_c (n := 36) (len_c (n := 35) (len_c (n := 34) (len_c (n := 33) (len_b (k := 32) (n := 1) g4 (len_c (n := 0) len_n)))))))
theorem z_field32_0 : fieldB Tryd.prog 32 0 = some 0 := by kernel_rfl
theorem q_ld_c4b32c1_0_36 {a0 a1 a2 a3 a5 : Value} {t4 : List UInt8} (h4 : t4.length = 32) : ((a0 :: a1 :: a2 :: a3 :: (t4.map u8 ++ (a5 :: []))).drop 0).take 36 = a0 :: a1 :: a2 :: a3 :: t4.map u8 := (ld_s (ld_s (ld_s (ld_s (ld_h h4)))))
theorem z_field32_1 : fieldB Tryd.prog 32 1 = some 36 := by kernel_rfl
theorem z_agg3 : aggB Tryd.prog 3 = some false := by kernel_rfl
theorem q_ix_c4b32c1_36 {a0 a1 a2 a3 a5 : Value} {t4 : List UInt8} (h4 : t4.length = 32) : (a0 :: a1 :: a2 :: a3 :: (t4.map u8 ++ (a5 :: [])))[36]? = some a5 := (ix_c (o := 35) (ix_c (o := 34) (ix_c (o := 33) (ix_c (o := 32) (ix_b (k := 32) (o := 0) h4 rfl ix_0)))))

set_option maxRecDepth 100000 in
set_option maxHeartbeats 1000000 in
theorem lfew (l : List Note.Bid) (A : Option Addr) (c : Nat) (hc : l.length ≤ c) (w : World) : Calls Tryd.prog 12 #[.slice A l.length c] w (Gives (.slice A (l.take 80).length c) [] w) := by
  have lz32 : (List.replicate 32 (0 : UInt8)).length = 32 := List.length_replicate
  refine enterL (args := [.slice A l.length c]) Tryd.func12 rfl rfl (l := []) (Sep.refl _) ?_
  intro a0 H0
  refine wp_seq ?_
  refine reg ?_
  refine plain (y_assign rfl rfl) rfl rfl rfl H0 ?_
  clear H0; intro a1 H1
  refine fin ?_
  refine then_n ?_
  refine wp_seq ?_
  refine wp_seq ?_
  refine reg ?_
  refine plain (y_move rfl rfl) rfl rfl rfl H1 ?_
  clear H1; intro a2 H2
  refine plain (y_len rfl Tryd.underlying22 rfl) rfl rfl rfl H2 ?_
  clear H2; intro a3 H3
  refine plain (y_gtr rfl rfl rfl) rfl rfl rfl H3 ?_
  clear H3; intro a4 H4
  refine fin ?_
  refine then_n ?_
  refine cnd H4 rfl (fun hc5 => ?_) (fun hc5 => ?_) -- cond 1
  · skip
    try simp only [decide_eq_true_eq, decide_eq_false_iff_not, Bool.not_eq_true', Bool.not_eq_false', Bool.and_eq_true, Bool.not_eq_true, Bool.not_eq_false] at hc5
    refine wp_seq ?_
    refine reg ?_
    refine plain (y_move rfl rfl) rfl rfl rfl H4 ?_
    clear H4; intro a6 H6
    refine plain (y_slS_hi rfl Tryd.underlying22 z_size30 rfl rfl (by omega) (by omega) (by omega)) rfl rfl rfl H6 ?_
    clear H6; intro a7 H7
    refine plain (y_assign rfl rfl) rfl rfl rfl H7 ?_
    clear H7; intro a8 H8
    refine fin ?_
    refine then_n ?_
    refine wp_ret ?_
    refine then_r ?_
    -- return 1
    refine ret1 rfl H8 rfl ?_
    refine ⟨_, [], rfl, ⟨?_, rfl⟩, H8.sep.sub (List.nil_sublist _)⟩
    exact congrArg (fun z => Value.slice A z c) (by rw [List.length_take]; omega)
  · skip
    try simp only [decide_eq_true_eq, decide_eq_false_iff_not, Bool.not_eq_true', Bool.not_eq_false', Bool.and_eq_true, Bool.not_eq_true, Bool.not_eq_false] at hc5
    refine wp_skip ?_
    refine then_n ?_
    refine wp_seq ?_
    refine reg ?_
    refine plain (y_move rfl rfl) rfl rfl rfl H4 ?_
    clear H4; intro a9 H9
    refine plain (y_assign rfl rfl) rfl rfl rfl H9 ?_
    clear H9; intro a10 H10
    refine fin ?_
    refine then_n ?_
    refine wp_ret ?_
    -- return 2
    refine ret1 rfl H10 rfl ?_
    refine ⟨_, [], rfl, ⟨?_, rfl⟩, H10.sep.sub (List.nil_sublist _)⟩
    exact congrArg (fun z => Value.slice A z c) (by rw [List.length_take]; omega)
set_option maxRecDepth 100000 in
set_option maxHeartbeats 2000000 in
theorem aawake {w : World} (hG : Glob 0 Sha.K w) : Calls Tryd.prog 15 #[] w (Gives (.bool true) [] w) := by
  have ha1 : Auction.A1.tag.length = 32 := Auction.A1_len
  have ha2 : Auction.A2.tag.length = 32 := Auction.A2_len
  have lz32 : (List.replicate 32 (0 : UInt8)).length = 32 := List.length_replicate
  refine enterL (args := []) Tryd.func15 rfl rfl (l := []) (Sep.refl _) ?_
  intro a0 H0
  refine wp_seq ?_
  refine reg ?_
  refine plain (y_assign rfl rfl) rfl rfl rfl H0 ?_
  clear H0; intro a1 H1
  refine fin ?_
  refine then_n ?_
  refine wp_seq ?_
  refine reg ?_
  refine plain (y_build rfl z_zeroN30 z_places30 rfl (lay_1 (off := 0) (n := 36) rfl (q_len_c4b32 (by first | assumption | exact Note.sign_len _)) (by decide) q_spl_c4b32_0_c1 (lay_1 (off := 1) (n := 36) rfl (q_len_c4b32 (by first | assumption | exact Note.sign_len _)) (by decide) q_spl_c4b32_1_c1 (lay_1 (off := 2) (n := 36) rfl (q_len_c4b32 (by first | assumption | exact Note.sign_len _)) (by decide) q_spl_c4b32_2_c1 lay_n (by rfl)) (by rfl)) (by rfl))) rfl rfl rfl H1 ?_
  clear H1; intro a2 H2
  refine st_callg rfl z_call50 rfl rfl rfl rfl H2 (show Calls Tryd.prog 50 #[.agg (Note.Bid.cells ⟨1, 1, 10, 0, Note.Z⟩).toArray] _ (Gives (.tuple #[.agg (Note.Bid.cells Auction.A1).toArray, .int .i64 (Note.signBid ⟨1, 1, 10, 0, Note.Z⟩).2]) [] _) from rsign ⟨1, 1, 10, 0, Note.Z⟩ (Note.bid_wf0 (by decide) Note.Z_len) _) ?_
  clear H2; intro a3 wx3 H3
  refine plain (y_move rfl rfl) rfl rfl rfl H3 ?_
  clear H3; intro a4 H4
  refine plain (y_extract rfl rfl rfl) rfl rfl rfl H4 ?_
  clear H4; intro a5 H5
  refine plain (y_extract rfl rfl rfl) rfl rfl rfl H5 ?_
  clear H5; intro a6 H6
  refine st_alloc rfl z_zeroN30 rfl rfl rfl H6 ?_
  clear H6; intro b7 a7 wx7 H7
  refine st_storeN rfl z_size30 rfl rfl (agg_cells _) (by repeat (first | exact Uh | apply Ut)) (q_one_c4b32 rfl rfl rfl rfl) (q_len_c4b32 (by first | assumption | exact Note.sign_len _)) (q_len_c4b32 (by first | assumption | exact Note.sign_len _)) (q_spl_c4b32_0_c4b32 (by first | assumption | exact Note.sign_len _) (by first | assumption | exact Note.sign_len _)) (by decide) rfl rfl H7 ?_
  clear H7; intro wx8 H8
  refine plain (y_assign rfl rfl) rfl rfl rfl H8 ?_
  clear H8; intro a9 H9
  refine fin ?_
  refine then_n ?_
  refine wp_seq ?_
  refine reg ?_
  refine plain (y_build rfl z_zeroN30 z_places30 rfl (lay_1 (off := 0) (n := 36) rfl (q_len_c4b32 (by first | assumption | exact Note.sign_len _)) (by decide) q_spl_c4b32_0_c1 (lay_1 (off := 1) (n := 36) rfl (q_len_c4b32 (by first | assumption | exact Note.sign_len _)) (by decide) q_spl_c4b32_1_c1 (lay_1 (off := 2) (n := 36) rfl (q_len_c4b32 (by first | assumption | exact Note.sign_len _)) (by decide) q_spl_c4b32_2_c1 lay_n (by rfl)) (by rfl)) (by rfl))) rfl rfl rfl H9 ?_
  clear H9; intro a10 H10
  refine st_callg rfl z_call50 rfl rfl rfl rfl H10 (show Calls Tryd.prog 50 #[.agg (Note.Bid.cells ⟨1, 2, 7, 0, Note.Z⟩).toArray] _ (Gives (.tuple #[.agg (Note.Bid.cells Auction.A2).toArray, .int .i64 (Note.signBid ⟨1, 2, 7, 0, Note.Z⟩).2]) [] _) from rsign ⟨1, 2, 7, 0, Note.Z⟩ (Note.bid_wf0 (by decide) Note.Z_len) _) ?_
  clear H10; intro a11 wx11 H11
  refine plain (y_move rfl rfl) rfl rfl rfl H11 ?_
  clear H11; intro a12 H12
  refine plain (y_extract rfl rfl rfl) rfl rfl rfl H12 ?_
  clear H12; intro a13 H13
  refine plain (y_extract rfl rfl rfl) rfl rfl rfl H13 ?_
  clear H13; intro a14 H14
  refine st_alloc rfl z_zeroN30 rfl rfl rfl H14 ?_
  clear H14; intro b15 a15 wx15 H15
  refine st_storeN rfl z_size30 rfl rfl (agg_cells _) (by repeat (first | exact Uh | apply Ut)) (q_one_c4b32 rfl rfl rfl rfl) (q_len_c4b32 (by first | assumption | exact Note.sign_len _)) (q_len_c4b32 (by first | assumption | exact Note.sign_len _)) (q_spl_c4b32_0_c4b32 (by first | assumption | exact Note.sign_len _) (by first | assumption | exact Note.sign_len _)) (by decide) rfl rfl H15 ?_
  clear H15; intro wx16 H16
  refine plain (y_assign rfl rfl) rfl rfl rfl H16 ?_
  clear H16; intro a17 H17
  refine fin ?_
  refine then_n ?_
  refine wp_seq ?_
  refine reg ?_
  refine plain (y_loadAB rfl z_agg30 z_size30 rfl (by repeat (first | exact Mh | apply Mt)) (q_ld_c4b32_0_36 (by first | assumption | exact Note.sign_len _)) (q_len_c4b32 (by first | assumption | exact Note.sign_len _))) rfl rfl rfl H17 ?_
  clear H17; intro a18 H18
  refine plain (y_loadAB rfl z_agg30 z_size30 rfl (by repeat (first | exact Mh | apply Mt)) (q_ld_c4b32_0_36 (by first | assumption | exact Note.sign_len _)) (q_len_c4b32 (by first | assumption | exact Note.sign_len _))) rfl rfl rfl H18 ?_
  clear H18; intro a19 H19
  refine st_buildSlice rfl Tryd.underlying22 z_size30 z_zero30 rfl rfl rfl (lay_agg2 (agg_cells _) (agg_cells _) (Auction.bid_len ha2) (Auction.bid_len ha1) rfl) rfl rfl rfl H19 ?_
  clear H19; intro b20 a20 wx20 H20
  refine st_buildSlice1 (xs := [.const (.int .i64 (0)), .const (.int .i64 (10)), .const (.int .i64 (10))]) rfl Tryd.underlying23 z_size3 z_zero3 rfl rfl rfl rfl rfl rfl rfl rfl rfl H20 ?_
  clear H20; intro b21 a21 wx21 H21
  refine st_callg rfl z_call13 rfl rfl rfl rfl H21 (by have h := awin [Auction.A2, Auction.A1] [0, 10, 10] 1 3 _ _ 2 3 2 3 rfl rfl (by simp) (by simp) Auction.A_wf (by rw [Auction.bdc_two]; exact Rd.ofSep (rd_blkA (by repeat (first | exact Mh | apply Mt))) H21.sep) (Rd.ofSep (rd_blkA (by repeat (first | exact Mh | apply Mt))) H21.sep) (hG.frm H21.sep.frm (by simp)); rw [Auction.aw_win1] at h; exact h) ?_
  clear H21; intro a22 wx22 H22
  refine plain (y_move rfl rfl) rfl rfl rfl H22 ?_
  clear H22; intro a23 H23
  refine plain (y_extract rfl rfl rfl) rfl rfl rfl H23 ?_
  clear H23; intro a24 H24
  refine plain (y_extract rfl rfl rfl) rfl rfl rfl H24 ?_
  clear H24; intro a25 H25
  refine st_alloc rfl z_zeroN32 rfl rfl rfl H25 ?_
  clear H25; intro b26 a26 wx26 H26
  refine st_storeN rfl z_size32 rfl rfl (agg_cells _) (by repeat (first | exact Uh | apply Ut)) (q_one_c4b32c1 rfl rfl rfl rfl rfl) (q_len_c4b32c1 (by first | assumption | exact Note.sign_len _)) (q_len_c4b32c1 (by first | assumption | exact Note.sign_len _)) (q_spl_c4b32c1_0_c4b32c1 (by first | assumption | exact Note.sign_len _) (by first | assumption | exact Note.sign_len _)) (by decide) rfl rfl H26 ?_
  clear H26; intro wx27 H27
  refine plain (y_assign rfl rfl) rfl rfl rfl H27 ?_
  clear H27; intro a28 H28
  refine fin ?_
  refine then_n ?_
  refine wp_seq ?_
  refine reg ?_
  refine plain (y_loadAB rfl z_agg30 z_size30 rfl (by repeat (first | exact Mh | apply Mt)) (q_ld_c4b32_0_36 (by first | assumption | exact Note.sign_len _)) (q_len_c4b32 (by first | assumption | exact Note.sign_len _))) rfl rfl rfl H28 ?_
  clear H28; intro a29 H29
  refine plain (y_loadAB rfl z_agg30 z_size30 rfl (by repeat (first | exact Mh | apply Mt)) (q_ld_c4b32_0_36 (by first | assumption | exact Note.sign_len _)) (q_len_c4b32 (by first | assumption | exact Note.sign_len _))) rfl rfl rfl H29 ?_
  clear H29; intro a30 H30
  refine st_buildSlice rfl Tryd.underlying22 z_size30 z_zero30 rfl rfl rfl (lay_agg2 (agg_cells _) (agg_cells _) (Auction.bid_len ha2) (Auction.bid_len ha1) rfl) rfl rfl rfl H30 ?_
  clear H30; intro b31 a31 wx31 H31
  refine st_buildSlice1 (xs := [.const (.int .i64 (0)), .const (.int .i64 (10)), .const (.int .i64 (6))]) rfl Tryd.underlying23 z_size3 z_zero3 rfl rfl rfl rfl rfl rfl rfl rfl rfl H31 ?_
  clear H31; intro b32 a32 wx32 H32
  refine st_callg rfl z_call13 rfl rfl rfl rfl H32 (by have h := awin [Auction.A2, Auction.A1] [0, 10, 6] 1 3 _ _ 2 3 2 3 rfl rfl (by simp) (by simp) Auction.A_wf (by rw [Auction.bdc_two]; exact Rd.ofSep (rd_blkA (by repeat (first | exact Mh | apply Mt))) H32.sep) (Rd.ofSep (rd_blkA (by repeat (first | exact Mh | apply Mt))) H32.sep) (hG.frm H32.sep.frm (by simp)); rw [Auction.aw_win2] at h; exact h) ?_
  clear H32; intro a33 wx33 H33
  refine plain (y_move rfl rfl) rfl rfl rfl H33 ?_
  clear H33; intro a34 H34
  refine plain (y_extract rfl rfl rfl) rfl rfl rfl H34 ?_
  clear H34; intro a35 H35
  refine plain (y_extract rfl rfl rfl) rfl rfl rfl H35 ?_
  clear H35; intro a36 H36
  refine st_alloc rfl z_zeroN32 rfl rfl rfl H36 ?_
  clear H36; intro b37 a37 wx37 H37
  refine st_storeN rfl z_size32 rfl rfl (agg_cells _) (by repeat (first | exact Uh | apply Ut)) (q_one_c4b32c1 rfl rfl rfl rfl rfl) (q_len_c4b32c1 (by first | assumption | exact Note.sign_len _)) (q_len_c4b32c1 (by first | assumption | exact Note.sign_len _)) (q_spl_c4b32c1_0_c4b32c1 (by first | assumption | exact Note.sign_len _) (by first | assumption | exact Note.sign_len _)) (by decide) rfl rfl H37 ?_
  clear H37; intro wx38 H38
  refine plain (y_assign rfl rfl) rfl rfl rfl H38 ?_
  clear H38; intro a39 H39
  refine fin ?_
  refine then_n ?_
  refine wp_seq ?_
  refine reg ?_
  refine plain (y_move rfl rfl) rfl rfl rfl H39 ?_
  clear H39; intro a40 H40
  refine plain (y_move rfl rfl) rfl rfl rfl H40 ?_
  clear H40; intro a41 H41
  have H43 := H41.know (d := 36) (v := .bool true) rfl ((by first | rfl | exact congrArg Value.bool (decide_eq_true rfl)))
  clear H41
  refine plain (y_fieldB rfl z_field32_0 rfl (by first | (simp only [Nat.zero_add, Nat.add_zero, Nat.reduceAdd]; rfl) | rfl)) rfl rfl rfl H43 ?_
  clear H43; intro a44 H44
  refine plain (y_loadAB rfl z_agg30 z_size30 rfl (by repeat (first | exact Mh | apply Mt)) (q_ld_c4b32c1_0_36 (by first | assumption | exact Note.sign_len _)) (q_len_c4b32 (by first | assumption | exact Note.sign_len _))) rfl rfl rfl H44 ?_
  clear H44; intro a45 H45
  refine plain (y_loadAB rfl z_agg30 z_size30 rfl (by repeat (first | exact Mh | apply Mt)) (q_ld_c4b32_0_36 (by first | assumption | exact Note.sign_len _)) (q_len_c4b32 (by first | assumption | exact Note.sign_len _))) rfl rfl rfl H45 ?_
  clear H45; intro a46 H46
  refine plain (y_teql rfl (by kernel_rfl) rfl rfl (eqr_Bid Auction.A1 Auction.A1 ha1 ha1)) rfl rfl rfl H46 ?_
  clear H46; intro a47 H47
  refine plain (y_pick_t rfl rfl rfl) rfl rfl rfl H47 ?_
  clear H47; intro a48 H48
  refine plain (y_move rfl rfl) rfl rfl rfl H48 ?_
  clear H48; intro a49 H49
  have H51 := H49.know (d := 42) (v := .bool true) rfl ((by first | rfl | exact congrArg Value.bool (decide_eq_true rfl)))
  clear H49
  refine plain (y_fieldB rfl z_field32_1 rfl (by first | (simp only [Nat.zero_add, Nat.add_zero, Nat.reduceAdd]; rfl) | rfl)) rfl rfl rfl H51 ?_
  clear H51; intro a52 H52
  refine plain (y_loadB rfl z_agg3 rfl (by repeat (first | exact Mh | apply Mt)) (q_ix_c4b32c1_36 (by first | assumption | exact Note.sign_len _))) rfl rfl rfl H52 ?_
  clear H52; intro a53 H53
  refine plain (y_eql rfl rfl rfl) rfl rfl rfl H53 ?_
  clear H53; intro a54 H54
  refine plain (y_pick_t rfl rfl rfl) rfl rfl rfl H54 ?_
  clear H54; intro a55 H55
  refine plain (y_move rfl rfl) rfl rfl rfl H55 ?_
  clear H55; intro a56 H56
  have H58 := H56.know (d := 47) (v := .bool true) rfl ((by first | rfl | exact congrArg Value.bool (decide_eq_true rfl)))
  clear H56
  refine plain (y_move rfl rfl) rfl rfl rfl H58 ?_
  clear H58; intro a59 H59
  refine plain (y_pick_t rfl rfl rfl) rfl rfl rfl H59 ?_
  clear H59; intro a60 H60
  refine plain (y_move rfl rfl) rfl rfl rfl H60 ?_
  clear H60; intro a61 H61
  have H63 := H61.know (d := 50) (v := .bool true) rfl ((by first | rfl | exact congrArg Value.bool (decide_eq_true rfl)))
  clear H61
  refine plain (y_fieldB rfl z_field32_1 rfl (by first | (simp only [Nat.zero_add, Nat.add_zero, Nat.reduceAdd]; rfl) | rfl)) rfl rfl rfl H63 ?_
  clear H63; intro a64 H64
  refine plain (y_loadB rfl z_agg3 rfl (by repeat (first | exact Mh | apply Mt)) (q_ix_c4b32c1_36 (by first | assumption | exact Note.sign_len _))) rfl rfl rfl H64 ?_
  clear H64; intro a65 H65
  refine plain (y_eql rfl rfl rfl) rfl rfl rfl H65 ?_
  clear H65; intro a66 H66
  refine plain (y_pick_t rfl rfl rfl) rfl rfl rfl H66 ?_
  clear H66; intro a67 H67
  refine plain (y_assign rfl rfl) rfl rfl rfl H67 ?_
  clear H67; intro a68 H68
  refine fin ?_
  refine then_n ?_
  refine wp_ret ?_
  -- return 1
  refine ret1 rfl H68 rfl ?_
  exact ⟨_, [], rfl, ⟨congrArg Value.bool (decide_eq_true rfl), rfl⟩, H68.sep.sub (List.nil_sublist _)⟩

end Go.Proofs.YtaeahloenahelaaDoor.A_Law

set_option linter.unusedVariables false
set_option linter.unusedSimpArgs false
namespace Go.Proofs.YtaeahloenahelaaDoor.A_EqW
open Go.Sx Go.RowKit

theorem z_agg28 : aggB Tryd.prog 28 = some true := by kernel_rfl
theorem z_size28 : sizeB Tryd.prog 28 = some 32 := by kernel_rfl
theorem q_len_c4b32 {a0 a1 a2 a3 : Value} {t4 : List UInt8} (h4 : t4.length = 32) : (a0 :: a1 :: a2 :: a3 :: t4.map u8).length = 36 := (len_c (n := 35) (len_c (n := 34) (len_c (n := 33) (len_c (n := 32) (len_e (k := 32) h4)))))
theorem q_ld_c4b32_4_32 {a0 a1 a2 a3 : Value} {t4 : List UInt8} (h4 : t4.length = 32) : ((a0 :: a1 :: a2 :: a3 :: t4.map u8).drop 4).take 32 = t4.map u8 := (ld_c (o := 3) (ld_c (o := 2) (ld_c (o := 1) (ld_c (o := 0) (ld_a (len_e (k := 32) h4))))))
theorem z_size5 : sizeB Tryd.prog 5 = some 1 := by kernel_rfl
theorem z_agg3 : aggB Tryd.prog 3 = some false := by kernel_rfl
theorem q_ix_c4b32_3 {a0 a1 a2 a3 : Value} {t4 : List UInt8} : (a0 :: a1 :: a2 :: a3 :: t4.map u8)[3]? = some a3 := (ix_c (o := 2) (ix_c (o := 1) (ix_c (o := 0) ix_0)))
theorem q_ix_c4b32_2 {a0 a1 a2 a3 : Value} {t4 : List UInt8} : (a0 :: a1 :: a2 :: a3 :: t4.map u8)[2]? = some a2 := (ix_c (o := 1) (ix_c (o := 0) ix_0))
theorem q_ix_c4b32_1 {a0 a1 a2 a3 : Value} {t4 : List UInt8} : (a0 :: a1 :: a2 :: a3 :: t4.map u8)[1]? = some a1 := (ix_c (o := 0) ix_0)
theorem q_ix_c4b32_0 {a0 a1 a2 a3 : Value} {t4 : List UInt8} : (a0 :: a1 :: a2 :: a3 :: t4.map u8)[0]? = some a0 := ix_0
theorem q_ix_c4b32c1_36 {a0 a1 a2 a3 a5 : Value} {t4 : List UInt8} (h4 : t4.length = 32) : (a0 :: a1 :: a2 :: a3 :: (t4.map u8 ++ (a5 :: [])))[36]? = some a5 := (ix_c (o := 35) (ix_c (o := 34) (ix_c (o := 33) (ix_c (o := 32) (ix_b (k := 32) (o := 0) h4 rfl ix_0)))))
theorem z_agg30 : aggB Tryd.prog 30 = some true := by kernel_rfl
theorem z_size30 : sizeB Tryd.prog 30 = some 36 := by kernel_rfl
theorem q_len_c4b32c1 {a0 a1 a2 a3 a5 : Value} {t4 : List UInt8} (h4 : t4.length = 32) : (a0 :: a1 :: a2 :: a3 :: (t4.map u8 ++ (a5 :: []))).length = 37 := (len_c (n := 36) (len_c (n := 35) (len_c (n := 34) (len_c (n := 33) (len_b (k := 32) (n := 1) h4 (len_c (n := 0) len_n))))))
theorem q_ld_c4b32c1_0_36 {a0 a1 a2 a3 a5 : Value} {t4 : List UInt8} (h4 : t4.length = 32) : ((a0 :: a1 :: a2 :: a3 :: (t4.map u8 ++ (a5 :: []))).drop 0).take 36 = a0 :: a1 :: a2 :: a3 :: t4.map u8 := (ld_s (ld_s (ld_s (ld_s (ld_h h4)))))
theorem eqr_Bid9 (x y : Note.Bid) (hx_tag : x.tag.length = 32) (hy_tag : y.tag.length = 32) : EqR Tryd.prog 9999 30 (.agg (Note.Bid.cells x).toArray) (.agg (Note.Bid.cells y).toArray) (decide (x = y)) := by
  have h : EqR Tryd.prog 9999 30 (.agg (Note.Bid.cells x).toArray) (.agg (Note.Bid.cells y).toArray) (decide (x.round = y.round) && (decide (x.who = y.who) && (decide (x.amount = y.amount) && (decide (x.salt = y.salt) && (decide (x.tag = y.tag) && true))))) := eqr_struct Tryd.underlying30 (by kernel_rfl) (eqf_c (by decide) (pa_1 z_agg3 q_ix_c4b32_0) (pa_1 z_agg3 q_ix_c4b32_0) (eqr_int Tryd.underlying3) (eqf_c (by decide) (pa_1 z_agg3 q_ix_c4b32_1) (pa_1 z_agg3 q_ix_c4b32_1) (eqr_int Tryd.underlying3) (eqf_c (by decide) (pa_1 z_agg3 q_ix_c4b32_2) (pa_1 z_agg3 q_ix_c4b32_2) (eqr_int Tryd.underlying3) (eqf_c (by decide) (pa_1 z_agg3 q_ix_c4b32_3) (pa_1 z_agg3 q_ix_c4b32_3) (eqr_int Tryd.underlying3) (eqf_c (by decide) (pa_a z_agg28 z_size28 (q_len_c4b32 (by assumption)) (by decide) (q_ld_c4b32_4_32 (by assumption))) (pa_a z_agg28 z_size28 (q_len_c4b32 (by assumption)) (by decide) (q_ld_c4b32_4_32 (by assumption))) (eqr_bytes Tryd.underlying28 Tryd.underlying5 z_size5 hx_tag hy_tag) eqf_n)))))
  have e : decide (x = y) = (decide (x.round = y.round) && (decide (x.who = y.who) && (decide (x.amount = y.amount) && (decide (x.salt = y.salt) && (decide (x.tag = y.tag) && true))))) := by
    rw [Bool.eq_iff_iff]
    cases x
    cases y
    simp
  rw [e]
  exact h
theorem eqr_Win (x y : Auction.Win) (hx_bid_tag : x.bid.tag.length = 32) (hy_bid_tag : y.bid.tag.length = 32) : EqR Tryd.prog 10000 32 (.agg (Auction.Win.cells x).toArray) (.agg (Auction.Win.cells y).toArray) (decide (x = y)) := by
  have h : EqR Tryd.prog 10000 32 (.agg (Auction.Win.cells x).toArray) (.agg (Auction.Win.cells y).toArray) (decide (x.bid = y.bid) && (decide (x.price = y.price) && true)) := eqr_struct Tryd.underlying32 (by kernel_rfl) (eqf_c (by decide) (pa_a z_agg30 z_size30 (q_len_c4b32c1 (by assumption)) (by decide) (q_ld_c4b32c1_0_36 (by assumption))) (pa_a z_agg30 z_size30 (q_len_c4b32c1 (by assumption)) (by decide) (q_ld_c4b32c1_0_36 (by assumption))) (eqr_Bid9 x.bid y.bid hx_bid_tag hy_bid_tag) (eqf_c (by decide) (pa_1 z_agg3 (q_ix_c4b32c1_36 (by assumption))) (pa_1 z_agg3 (q_ix_c4b32c1_36 (by assumption))) (eqr_int Tryd.underlying3) eqf_n))
  have e : decide (x = y) = (decide (x.bid = y.bid) && (decide (x.price = y.price) && true)) := by
    rw [Bool.eq_iff_iff]
    cases x
    cases y
    simp
  rw [e]
  exact h

end Go.Proofs.YtaeahloenahelaaDoor.A_EqW

set_option linter.unusedVariables false
set_option linter.unusedSimpArgs false
namespace Go.Proofs.YtaeahloenahelaaDoor.A_L2
open Go.Sx Go.RowKit Go.Proofs.YtaeahloenahelaaDoor.A_Block Go.Proofs.YtaeahloenahelaaDoor.A_Sum Go.Proofs.YtaeahloenahelaaDoor.A_Ref Go.Proofs.YtaeahloenahelaaDoor.A_RSum Go.Proofs.YtaeahloenahelaaDoor.A_Leaf Go.Proofs.YtaeahloenahelaaDoor.A_Num Go.Proofs.YtaeahloenahelaaDoor.A_Key Go.Proofs.YtaeahloenahelaaDoor.A_Ref Go.Proofs.YtaeahloenahelaaDoor.A_RSum Go.Proofs.YtaeahloenahelaaDoor.A_Tag Go.Proofs.YtaeahloenahelaaDoor.A_Lay Go.Proofs.YtaeahloenahelaaDoor.A_Eq Go.Proofs.YtaeahloenahelaaDoor.A_Ref0 Go.Proofs.YtaeahloenahelaaDoor.A_Sign Go.Proofs.YtaeahloenahelaaDoor.A_RefB Go.Proofs.YtaeahloenahelaaDoor.A_Win Go.Proofs.YtaeahloenahelaaDoor.A_RWin Go.Proofs.YtaeahloenahelaaDoor.A_Law Go.Proofs.YtaeahloenahelaaDoor.A_EqW Go.Proofs.YtaeahloenahelaaDoor.A_RCnt

theorem z_field25_0 : fieldB Tryd.prog 25 0 = some 0 := by kernel_rfl
theorem z_agg22 : aggB Tryd.prog 22 = some false := by kernel_rfl
theorem q_ix_c4_0 {a0 a1 a2 a3 : Value} : (a0 :: a1 :: a2 :: a3 :: [])[0]? = some a0 := ix_0
theorem z_call12 : callB Tryd.prog 12 = true := by kernel_rfl
theorem z_size22 : sizeB Tryd.prog 22 = some 1 := by kernel_rfl
theorem q_len_c4 {a0 a1 a2 a3 : Value} : (a0 :: a1 :: a2 :: a3 :: []).length = 4 := (len_c (n := 3) (len_c (n := 2) (len_c (n := 1) (len_c (n := 0) len_n))))
theorem q_set_c4_0 {a0 a1 a2 a3 : Value} {v : Value} : (a0 :: a1 :: a2 :: a3 :: []).set 0 v = v :: a1 :: a2 :: a3 :: [] := set_0
theorem z_field25_1 : fieldB Tryd.prog 25 1 = some 1 := by kernel_rfl
theorem z_agg23 : aggB Tryd.prog 23 = some false := by kernel_rfl
theorem q_ix_c4_1 {a0 a1 a2 a3 : Value} : (a0 :: a1 :: a2 :: a3 :: [])[1]? = some a1 := (ix_c (o := 0) ix_0)
theorem z_field25_2 : fieldB Tryd.prog 25 2 = some 2 := by kernel_rfl
theorem z_agg3 : aggB Tryd.prog 3 = some false := by kernel_rfl
theorem q_ix_c4_2 {a0 a1 a2 a3 : Value} : (a0 :: a1 :: a2 :: a3 :: [])[2]? = some a2 := (ix_c (o := 1) (ix_c (o := 0) ix_0))
theorem z_field25_3 : fieldB Tryd.prog 25 3 = some 3 := by kernel_rfl
theorem q_ix_c4_3 {a0 a1 a2 a3 : Value} : (a0 :: a1 :: a2 :: a3 :: [])[3]? = some a3 := (ix_c (o := 2) (ix_c (o := 1) (ix_c (o := 0) ix_0)))
theorem z_call13 : callB Tryd.prog 13 = true := by kernel_rfl
theorem z_zeroN32 : zeroL Tryd.prog 32 = some ((.int .i64 0 :: (.int .i64 0 :: (.int .i64 0 :: (.int .i64 0 :: ((List.replicate 32 (0 : UInt8)).map u8 ++ (.int .i64 0 :: []))))))) := by kernel_rfl
theorem z_size32 : sizeB Tryd.prog 32 = some 37 := by kernel_rfl
theorem q_one_c4b32c1 {a0 a1 a2 a3 a5 : Value} {t4 : List UInt8} (o0 : a0.oneCell' = true) (o1 : a1.oneCell' = true) (o2 : a2.oneCell' = true) (o3 : a3.oneCell' = true) (o5 : a5.oneCell' = true) : (a0 :: a1 :: a2 :: a3 :: (t4.map u8 ++ (a5 :: []))).all (·.oneCell') = true := (one_c o0 (one_c o1 (one_c o2 (one_c o3 (one_b (one_c o5 one_n))))))
theorem q_len_c4b32c1 {a0 a1 a2 a3 a5 : Value} {t4 : List UInt8} (h4 : t4.length = 32) : (a0 :: a1 :: a2 :: a3 :: (t4.map u8 ++ (a5 :: []))).length = 37 := (len_c (n := 36) (len_c (n := 35) (len_c (n := 34) (len_c (n := 33) (len_b (k := 32) (n := 1) h4 (len_c (n := 0) len_n))))))
theorem q_spl_c4b32c1_0_c4b32c1 {a0 a1 a2 a3 a5 : Value} {t4 : List UInt8} {b0 b1 b2 b3 b5 : Value} {s4 : List UInt8} (h4 : t4.length = 32) (g4 : s4.length = 32) : spl (a0 :: a1 :: a2 :: a3 :: (t4.map u8 ++ (a5 :: []))) 0 (b0 :: b1 :: b2 :: b3 :: (s4.map u8 ++ (b5 :: []))) = b0 :: b1 :: b2 :: b3 :: (s4.map u8 ++ (b5 :: [])) := (spl_a (z := 37) (len_c (n := 36) (len_c (n := 35) (len_c (n := 34) (len_c (n := 33) (len_b (k := 32) (n := 1) h4 (len_c (n := 0) len_n)))))) (len_c (n := 36) (len_c (n := 35) (len_c (n := 34) (len_c (n := 33) (len_b (k := 32) (n := 1) g4 (len_c (n := 0) len_n)))))))
theorem z_call16 : callB Tryd.prog 16 = true := by kernel_rfl
theorem z_call15 : callB Tryd.prog 15 = true := by kernel_rfl
theorem z_agg32 : aggB Tryd.prog 32 = some true := by kernel_rfl
theorem q_ld_c4b32c1_0_37 {a0 a1 a2 a3 a5 : Value} {t4 : List UInt8} (h4 : t4.length = 32) : ((a0 :: a1 :: a2 :: a3 :: (t4.map u8 ++ (a5 :: []))).drop 0).take 37 = a0 :: a1 :: a2 :: a3 :: (t4.map u8 ++ (a5 :: [])) := (ld_a (len_c (n := 36) (len_c (n := 35) (len_c (n := 34) (len_c (n := 33) (len_b (k := 32) (n := 1) h4 (len_c (n := 0) len_n)))))))
theorem z_places32 : placesB Tryd.prog 32 = some [(0, 36), (36, 1)] := by kernel_rfl
theorem z_size30 : sizeB Tryd.prog 30 = some 36 := by kernel_rfl
theorem z_field30_2 : fieldB Tryd.prog 30 2 = some 2 := by kernel_rfl
theorem z_field32_0 : fieldB Tryd.prog 32 0 = some 0 := by kernel_rfl
theorem q_ix_c4b32c1_2 {a0 a1 a2 a3 a5 : Value} {t4 : List UInt8} : (a0 :: a1 :: a2 :: a3 :: (t4.map u8 ++ (a5 :: [])))[2]? = some a2 := (ix_c (o := 1) (ix_c (o := 0) ix_0))
theorem z_field30_1 : fieldB Tryd.prog 30 1 = some 1 := by kernel_rfl
theorem q_ix_c4b32c1_1 {a0 a1 a2 a3 a5 : Value} {t4 : List UInt8} : (a0 :: a1 :: a2 :: a3 :: (t4.map u8 ++ (a5 :: [])))[1]? = some a1 := (ix_c (o := 0) ix_0)
theorem z_field32_1 : fieldB Tryd.prog 32 1 = some 36 := by kernel_rfl
theorem q_ix_c4b32c1_36 {a0 a1 a2 a3 a5 : Value} {t4 : List UInt8} (h4 : t4.length = 32) : (a0 :: a1 :: a2 :: a3 :: (t4.map u8 ++ (a5 :: [])))[36]? = some a5 := (ix_c (o := 35) (ix_c (o := 34) (ix_c (o := 33) (ix_c (o := 32) (ix_b (k := 32) (o := 0) h4 rfl ix_0)))))
theorem z_agg30 : aggB Tryd.prog 30 = some true := by kernel_rfl
theorem q_ld_c4b32c1_0_36 {a0 a1 a2 a3 a5 : Value} {t4 : List UInt8} (h4 : t4.length = 32) : ((a0 :: a1 :: a2 :: a3 :: (t4.map u8 ++ (a5 :: []))).drop 0).take 36 = a0 :: a1 :: a2 :: a3 :: t4.map u8 := (ld_s (ld_s (ld_s (ld_s (ld_h h4)))))
theorem q_len_c4b32 {a0 a1 a2 a3 : Value} {t4 : List UInt8} (h4 : t4.length = 32) : (a0 :: a1 :: a2 :: a3 :: t4.map u8).length = 36 := (len_c (n := 35) (len_c (n := 34) (len_c (n := 33) (len_c (n := 32) (len_e (k := 32) h4)))))

set_option maxRecDepth 100000 in
set_option maxHeartbeats 2000000 in
theorem auctionFair (l : List Note.Bid) (fs : List Int) (r fl : Int) (A B : Option Addr) (c e : Nat) (hc : l.length ≤ c) (hfl : fs.length ≤ 9223372036854775807) {w : World} (hw0 : ∀ x ∈ l, Note.Bid.Wf x) (hA0 : Rd w A (Auction.bdc l)) (hB : Rd w B (fs.map i64)) (hG : Glob 0 Sha.K w) : Calls Tryd.prog 4 #[.agg [Value.slice A l.length c, Value.slice B fs.length e, i64 r, i64 fl].toArray] w (Gives (.bool true) [] w) := by
  obtain ⟨Y, hY⟩ : ∃ Y, Y = l.take 80 := ⟨_, rfl⟩
  have hw : ∀ x ∈ Y, Note.Bid.Wf x := fun x hx => hw0 x (by rw [hY] at hx; exact List.mem_of_mem_take hx)
  have hA : Rd w A (Auction.bdc Y) := by (rw [hY, Auction.bdc_pre hw0]; exact hA0.take _)
  have hl : Y.length ≤ 80 := by (rw [hY, List.length_take]; omega)
  have hfew : ∀ w, Calls Tryd.prog 12 #[.slice A l.length c] w (Gives (.slice A Y.length c) [] w) := fun w => by have h := lfew l A c hc w; rw [← hY] at h; exact h
  obtain ⟨W, hW⟩ : ∃ W, W = Auction.win Y fs r fl := ⟨_, rfl⟩
  have hx : W.1.bid.tag.length = 32 := by rw [hW]; exact Auction.win_tag hw fs r fl
  have hW2 : W.2 = decide ((0 : Int) < ((Auction.counts Y fs r fl).length : Int)) := by rw [hW]; exact Auction.win_two Y fs r fl
  have hcw := Auction.counts_wf hw fs r fl
  have hfi := Auction.fine_counts fs r fl Y
  have hcl := Auction.counts_len fs r fl Y
  have hZl : Note.Z.length = 32 := Note.Z_len
  have lz32 : (List.replicate 32 (0 : UInt8)).length = 32 := List.length_replicate
  refine enterL (args := [.agg [Value.slice A l.length c, Value.slice B fs.length e, i64 r, i64 fl].toArray]) Tryd.func4 rfl rfl (l := []) (Sep.refl _) ?_
  intro a0 H0
  refine wp_seq ?_
  refine reg ?_
  refine st_box rfl rfl (agg_cells _) rfl rfl rfl H0 ?_
  clear H0; intro b1 a1 wx1 H1
  refine plain (y_assign rfl rfl) rfl rfl rfl H1 ?_
  clear H1; intro a2 H2
  refine fin ?_
  refine then_n ?_
  refine wp_seq ?_
  refine reg ?_
  refine plain (y_fieldB rfl z_field25_0 rfl (by first | (simp only [Nat.zero_add, Nat.add_zero, Nat.reduceAdd]; rfl) | rfl)) rfl rfl rfl H2 ?_
  clear H2; intro a3 H3
  refine plain (y_loadB rfl z_agg22 rfl (by repeat (first | exact Mh | apply Mt)) q_ix_c4_0) rfl rfl rfl H3 ?_
  clear H3; intro a4 H4
  refine st_callg rfl z_call12 rfl rfl rfl rfl H4 (hfew _) ?_
  clear H4; intro a5 wx5 H5
  refine plain (y_fieldB rfl z_field25_0 rfl (by first | (simp only [Nat.zero_add, Nat.add_zero, Nat.reduceAdd]; rfl) | rfl)) rfl rfl rfl H5 ?_
  clear H5; intro a6 H6
  refine st_store1N rfl z_size22 rfl rfl rfl (by repeat (first | exact Uh | apply Ut)) q_len_c4 q_set_c4_0 (by decide) rfl rfl H6 ?_
  clear H6; intro wx7 H7
  refine fin ?_
  refine then_n ?_
  refine wp_seq ?_
  refine reg ?_
  refine plain (y_fieldB rfl z_field25_0 rfl (by first | (simp only [Nat.zero_add, Nat.add_zero, Nat.reduceAdd]; rfl) | rfl)) rfl rfl rfl H7 ?_
  clear H7; intro a8 H8
  refine plain (y_loadB rfl z_agg22 rfl (by repeat (first | exact Mh | apply Mt)) q_ix_c4_0) rfl rfl rfl H8 ?_
  clear H8; intro a9 H9
  refine plain (y_fieldB rfl z_field25_1 rfl (by first | (simp only [Nat.zero_add, Nat.add_zero, Nat.reduceAdd]; rfl) | rfl)) rfl rfl rfl H9 ?_
  clear H9; intro a10 H10
  refine plain (y_loadB rfl z_agg23 rfl (by repeat (first | exact Mh | apply Mt)) q_ix_c4_1) rfl rfl rfl H10 ?_
  clear H10; intro a11 H11
  refine plain (y_fieldB rfl z_field25_2 rfl (by first | (simp only [Nat.zero_add, Nat.add_zero, Nat.reduceAdd]; rfl) | rfl)) rfl rfl rfl H11 ?_
  clear H11; intro a12 H12
  refine plain (y_loadB rfl z_agg3 rfl (by repeat (first | exact Mh | apply Mt)) q_ix_c4_2) rfl rfl rfl H12 ?_
  clear H12; intro a13 H13
  refine plain (y_fieldB rfl z_field25_3 rfl (by first | (simp only [Nat.zero_add, Nat.add_zero, Nat.reduceAdd]; rfl) | rfl)) rfl rfl rfl H13 ?_
  clear H13; intro a14 H14
  refine plain (y_loadB rfl z_agg3 rfl (by repeat (first | exact Mh | apply Mt)) q_ix_c4_3) rfl rfl rfl H14 ?_
  clear H14; intro a15 H15
  refine st_callg rfl z_call13 rfl rfl rfl rfl H15 (by have h := awin Y fs r fl A B _ _ c e rfl rfl (by omega) hfl hw (Rd.frm hA H15.sep.frm (by simp)) (Rd.frm hB H15.sep.frm (by simp)) (hG.frm H15.sep.frm (by simp)); rw [← hW] at h; exact h) ?_
  clear H15; intro a16 wx16 H16
  refine plain (y_move rfl rfl) rfl rfl rfl H16 ?_
  clear H16; intro a17 H17
  refine plain (y_extract rfl rfl rfl) rfl rfl rfl H17 ?_
  clear H17; intro a18 H18
  refine plain (y_extract rfl rfl rfl) rfl rfl rfl H18 ?_
  clear H18; intro a19 H19
  refine st_alloc rfl z_zeroN32 rfl rfl rfl H19 ?_
  clear H19; intro b20 a20 wx20 H20
  refine st_storeN rfl z_size32 rfl rfl (agg_cells _) (by repeat (first | exact Uh | apply Ut)) (q_one_c4b32c1 rfl rfl rfl rfl rfl) (q_len_c4b32c1 (by assumption)) (q_len_c4b32c1 (by assumption)) (q_spl_c4b32c1_0_c4b32c1 (by assumption) (by assumption)) (by decide) rfl rfl H20 ?_
  clear H20; intro wx21 H21
  refine plain (y_assign rfl rfl) rfl rfl rfl H21 ?_
  clear H21; intro a22 H22
  refine fin ?_
  refine then_n ?_
  refine wp_seq ?_
  refine reg ?_
  refine plain (y_fieldB rfl z_field25_0 rfl (by first | (simp only [Nat.zero_add, Nat.add_zero, Nat.reduceAdd]; rfl) | rfl)) rfl rfl rfl H22 ?_
  clear H22; intro a23 H23
  refine plain (y_loadB rfl z_agg22 rfl (by repeat (first | exact Mh | apply Mt)) q_ix_c4_0) rfl rfl rfl H23 ?_
  clear H23; intro a24 H24
  refine plain (y_fieldB rfl z_field25_1 rfl (by first | (simp only [Nat.zero_add, Nat.add_zero, Nat.reduceAdd]; rfl) | rfl)) rfl rfl rfl H24 ?_
  clear H24; intro a25 H25
  refine plain (y_loadB rfl z_agg23 rfl (by repeat (first | exact Mh | apply Mt)) q_ix_c4_1) rfl rfl rfl H25 ?_
  clear H25; intro a26 H26
  refine plain (y_fieldB rfl z_field25_2 rfl (by first | (simp only [Nat.zero_add, Nat.add_zero, Nat.reduceAdd]; rfl) | rfl)) rfl rfl rfl H26 ?_
  clear H26; intro a27 H27
  refine plain (y_loadB rfl z_agg3 rfl (by repeat (first | exact Mh | apply Mt)) q_ix_c4_2) rfl rfl rfl H27 ?_
  clear H27; intro a28 H28
  refine plain (y_fieldB rfl z_field25_3 rfl (by first | (simp only [Nat.zero_add, Nat.add_zero, Nat.reduceAdd]; rfl) | rfl)) rfl rfl rfl H28 ?_
  clear H28; intro a29 H29
  refine plain (y_loadB rfl z_agg3 rfl (by repeat (first | exact Mh | apply Mt)) q_ix_c4_3) rfl rfl rfl H29 ?_
  clear H29; intro a30 H30
  refine st_call rfl z_call16 rfl rfl rfl rfl H30 (rcounts Y fs r fl A B _ _ c e rfl rfl (by omega) hfl hw (Rd.frm hA H30.sep.frm (by simp)) (Rd.frm hB H30.sep.frm (by simp))) ?_
  clear H30; intro v31 l31 a31 wx31 hf31 H31
  obtain rfl := hf31
  simp only [List.cons_append, List.nil_append] at H31
  obtain ⟨ArC, crC, hvrC, hRrC, hmrC⟩ := row_shape (v := v31) H31.sep (by repeat (first | exact Mh | apply Mt))
  subst hvrC
  refine plain (y_assign rfl rfl) rfl rfl rfl H31 ?_
  clear H31; intro a32 H32
  refine fin ?_
  refine then_n ?_
  refine wp_seq ?_
  refine wp_seq ?_
  refine reg ?_
  refine st_callg rfl z_call15 rfl rfl rfl rfl H32 (aawake (hG.frm H32.sep.frm (by simp))) ?_
  clear H32; intro a33 wx33 H33
  refine plain (y_not rfl rfl) rfl rfl rfl H33 ?_
  clear H33; intro a34 H34
  refine plain (y_move rfl rfl) rfl rfl rfl H34 ?_
  clear H34; intro a35 H35
  refine plain (y_move rfl rfl) rfl rfl rfl H35 ?_
  clear H35; intro a36 H36
  refine plain (y_move rfl rfl) rfl rfl rfl H36 ?_
  clear H36; intro a37 H37
  refine plain (y_len rfl Tryd.underlying22 rfl) rfl rfl rfl H37 ?_
  clear H37; intro a38 H38
  refine plain (y_gtr rfl rfl rfl) rfl rfl rfl H38 ?_
  clear H38; intro a39 H39
  refine plain (y_bneq rfl Tryd.underlying4 rfl rfl) rfl rfl rfl H39 ?_
  clear H39; intro a40 H40
  refine plain (y_pick_f rfl rfl rfl) rfl rfl rfl H40 ?_
  clear H40; intro a41 H41
  refine fin ?_
  refine then_n ?_
  refine cnd H41 rfl (fun hc42 => ?_) (fun hc42 => ?_) -- cond 1
  · (try simp only [decide_eq_true_eq, decide_eq_false_iff_not, Bool.not_eq_true', Bool.not_eq_false', Bool.and_eq_true, Bool.not_eq_true, Bool.not_eq_false] at hc42); (exfalso; rw [hW2] at hc42; simp at hc42)
  · skip
    try simp only [decide_eq_true_eq, decide_eq_false_iff_not, Bool.not_eq_true', Bool.not_eq_false', Bool.and_eq_true, Bool.not_eq_true, Bool.not_eq_false] at hc42
    refine wp_skip ?_
    refine then_n ?_
    refine wp_seq ?_
    refine wp_seq ?_
    refine reg ?_
    refine plain (y_move rfl rfl) rfl rfl rfl H41 ?_
    clear H41; intro a43 H43
    refine plain ((by first | exact y_not_d rfl rfl | exact y_not rfl rfl)) rfl rfl rfl H43 ?_
    clear H43; intro a44 H44
    refine fin ?_
    refine then_n ?_
    refine cnd H44 rfl (fun hc45 => ?_) (fun hc45 => ?_) -- cond 2
    · skip
      try simp only [decide_eq_true_eq, decide_eq_false_iff_not, Bool.not_eq_true', Bool.not_eq_false', Bool.and_eq_true, Bool.not_eq_true, Bool.not_eq_false] at hc45
      have hwn : W.2 = false := by simpa using hc45
      refine wp_seq ?_
      refine reg ?_
      refine plain (y_loadAB rfl z_agg32 z_size32 rfl (by repeat (first | exact Mh | apply Mt)) (q_ld_c4b32c1_0_37 (by assumption)) (q_len_c4b32c1 (by assumption))) rfl rfl rfl H44 ?_
      clear H44; intro a46 H46
      refine plain (y_build rfl z_zeroN32 z_places32 rfl lay_n) rfl rfl rfl H46 ?_
      clear H46; intro a47 H47
      refine plain (y_teql rfl (by kernel_rfl) rfl rfl (eqr_Win W.1 Auction.Win.zero hx hZl)) rfl rfl rfl H47 ?_
      clear H47; intro a48 H48
      refine plain (y_assign rfl rfl) rfl rfl rfl H48 ?_
      clear H48; intro a49 H49
      refine fin ?_
      refine then_n ?_
      refine wp_ret ?_
      refine then_r ?_
      -- return 1
      refine ret1 rfl H49 rfl ?_
      first | (exact ⟨_, [], rfl, ⟨congrArg Value.bool (decide_eq_true (by rw [hW]; exact Auction.win_not (by rw [← hW]; exact hwn))), rfl⟩, H49.sep.sub (List.nil_sublist _)⟩) | (exact ⟨_, [], rfl, ⟨congrArg Value.bool (decide_eq_true hle), rfl⟩, H49.sep.sub (List.nil_sublist _)⟩) | (exact ⟨_, [], rfl, ⟨rfl, rfl⟩, H49.sep.sub (List.nil_sublist _)⟩)
    · skip
      try simp only [decide_eq_true_eq, decide_eq_false_iff_not, Bool.not_eq_true', Bool.not_eq_false', Bool.and_eq_true, Bool.not_eq_true, Bool.not_eq_false] at hc45
      have hWt : W.2 = true := by simpa using hc45
      have hpos := Auction.win_yes (hW ▸ hWt)
      obtain ⟨hall, hex, hge, hle⟩ := Auction.fair hfi hpos
      rw [← Auction.win_is, ← hW] at hall hex hge hle
      refine wp_skip ?_
      refine then_n ?_
      refine wp_seq ?_
      refine reg ?_
      refine plain (y_assign rfl rfl) rfl rfl rfl H44 ?_
      clear H44; intro a50 H50
      refine fin ?_
      refine then_n ?_
      refine wp_seq ?_
      refine wp_seq ?_
      refine reg ?_
      refine plain (y_assign rfl rfl) rfl rfl rfl H50 ?_
      clear H50; intro a51 H51
      refine fin ?_
      refine then_n ?_
      refine wp_block ?_
      refine loop (ι := Nat × Bool) (fun x => [(1, .pointer (some ⟨b1, 0, none⟩)), (2, .bool false), (3, .pointer (some ⟨b20, 0, none⟩)), (5, .slice ArC (Auction.counts Y fs r fl).length crC), (6, .bool x.2), (7, .int .i64 (x.1 : Int))]) (fun x => [It.row 30 36 (.slice ArC (Auction.counts Y fs r fl).length crC) (Auction.counts Y fs r fl).length (Auction.bdc (Auction.counts Y fs r fl)), It.blk b20 32 (Auction.Win.cells W.1), It.blk b1 25 [Value.slice A Y.length c, Value.slice B fs.length e, i64 r, i64 fl]]) (fun x => x.1 ≤ (Auction.counts Y fs r fl).length ∧ (x.2 = true ↔ ∃ i, i < x.1 ∧ (Auction.counts Y fs r fl).getD i Note.Bid.zero = W.1.bid)) (fun x => (Auction.counts Y fs r fl).length - x.1) ((0, false)) ⟨Nat.zero_le _, by simp⟩ (H51.weak ⟨rfl, rfl, rfl, rfl, rfl, rfl, trivial⟩ rfl) ?_
      clear H51; intro x a52 wx52 hok52 H52
      obtain ⟨k, q⟩ := x
      dsimp only at hok52 H52
      obtain ⟨hok, hq⟩ := hok52
      refine wp_seq ?_
      refine wp_seq ?_
      refine reg ?_
      refine plain (y_move rfl rfl) rfl rfl rfl H52 ?_
      clear H52; intro a53 H53
      refine plain (y_move rfl rfl) rfl rfl rfl H53 ?_
      clear H53; intro a54 H54
      refine plain (y_len rfl Tryd.underlying22 rfl) rfl rfl rfl H54 ?_
      clear H54; intro a55 H55
      refine plain (y_lss rfl rfl rfl) rfl rfl rfl H55 ?_
      clear H55; intro a56 H56
      refine fin ?_
      refine then_n ?_
      refine cnd H56 rfl (fun hc57 => ?_) (fun hc57 => ?_) -- cond 3
      · skip
        try simp only [decide_eq_true_eq, decide_eq_false_iff_not, Bool.not_eq_true', Bool.not_eq_false', Bool.and_eq_true, Bool.not_eq_true, Bool.not_eq_false] at hc57
        refine wp_skip ?_
        refine then_n ?_
        refine wp_seq ?_
        refine wp_block ?_
        refine wp_seq ?_
        refine wp_seq ?_
        have hkl : k < (Auction.counts Y fs r fl).length := by omega
        have hwk := Auction.atD hcw hkl
        refine qreg (by kernel_rfl) (by kernel_rfl) H56 ?_
        have F58 := H56.fr
        clear H56
        refine qplain (y_move rfl rfl) rfl rfl rfl F58 ?_
        clear F58; intro a59 H59
        refine qplain (y_move rfl rfl) rfl rfl rfl H59 ?_
        clear H59; intro a60 H60
        refine qplain (y_ixR rfl Tryd.underlying22 z_size30 rfl rfl (by omega) (by omega) (rd_row (by repeat (first | exact Mh | apply Mt))) (by rw [Auction.bdc_len hcw]; omega)) rfl rfl rfl H60 ?_
        clear H60; intro a61 H61
        refine qplain (y_fieldS rfl z_field30_2 rfl (rd_row (by repeat (first | exact Mh | apply Mt))) (by rw [Auction.bdc_len hcw]; omega)) rfl rfl rfl H61 ?_
        clear H61; intro a62 H62
        refine qplain (y_loadR rfl z_agg3 rfl (rd_row (by repeat (first | exact Mh | apply Mt))) (by simp only [Int.toNat_natCast, Nat.zero_add, Nat.add_zero]; exact (show _ = some (i64 ((Auction.counts Y fs r fl).getD k Note.Bid.zero).amount) from Auction.bdc_at (c := 2) hcw hkl (by omega)))) rfl rfl rfl H62 ?_
        clear H62; intro a63 H63
        refine qplain (y_fieldB rfl z_field32_0 rfl (by first | (simp only [Nat.zero_add, Nat.add_zero, Nat.reduceAdd]; rfl) | rfl)) rfl rfl rfl H63 ?_
        clear H63; intro a64 H64
        refine qplain (y_fieldB rfl z_field30_2 rfl (by first | (simp only [Nat.zero_add, Nat.add_zero, Nat.reduceAdd]; rfl) | rfl)) rfl rfl rfl H64 ?_
        clear H64; intro a65 H65
        refine qplain (y_loadB rfl z_agg3 rfl (by repeat (first | exact Mh | apply Mt)) q_ix_c4b32c1_2) rfl rfl rfl H65 ?_
        clear H65; intro a66 H66
        refine qplain (y_gtr rfl rfl rfl) rfl rfl rfl H66 ?_
        clear H66; intro a67 H67
        refine qplain (y_move rfl rfl) rfl rfl rfl H67 ?_
        clear H67; intro a68 H68
        have H70 := H68.know (d := 62) (v := .bool false) rfl (congrArg Value.bool (decide_eq_false (by have := (hall k hkl).1; omega)))
        clear H68
        refine qplain (y_move rfl rfl) rfl rfl rfl H70 ?_
        clear H70; intro a71 H71
        refine qplain (y_move rfl rfl) rfl rfl rfl H71 ?_
        clear H71; intro a72 H72
        refine qplain (y_ixR rfl Tryd.underlying22 z_size30 rfl rfl (by omega) (by omega) (rd_row (by repeat (first | exact Mh | apply Mt))) (by rw [Auction.bdc_len hcw]; omega)) rfl rfl rfl H72 ?_
        clear H72; intro a73 H73
        refine qplain (y_fieldS rfl z_field30_1 rfl (rd_row (by repeat (first | exact Mh | apply Mt))) (by rw [Auction.bdc_len hcw]; omega)) rfl rfl rfl H73 ?_
        clear H73; intro a74 H74
        refine qplain (y_loadR rfl z_agg3 rfl (rd_row (by repeat (first | exact Mh | apply Mt))) (by simp only [Int.toNat_natCast, Nat.zero_add, Nat.add_zero]; exact (show _ = some (i64 ((Auction.counts Y fs r fl).getD k Note.Bid.zero).who) from Auction.bdc_at (c := 1) hcw hkl (by omega)))) rfl rfl rfl H74 ?_
        clear H74; intro a75 H75
        refine qplain (y_fieldB rfl z_field32_0 rfl (by first | (simp only [Nat.zero_add, Nat.add_zero, Nat.reduceAdd]; rfl) | rfl)) rfl rfl rfl H75 ?_
        clear H75; intro a76 H76
        refine qplain (y_fieldB rfl z_field30_1 rfl (by first | (simp only [Nat.zero_add, Nat.add_zero, Nat.reduceAdd]; rfl) | rfl)) rfl rfl rfl H76 ?_
        clear H76; intro a77 H77
        refine qplain (y_loadB rfl z_agg3 rfl (by repeat (first | exact Mh | apply Mt)) q_ix_c4b32c1_1) rfl rfl rfl H77 ?_
        clear H77; intro a78 H78
        refine qplain (y_neq rfl rfl rfl) rfl rfl rfl H78 ?_
        clear H78; intro a79 H79
        refine qplain (y_move rfl rfl) rfl rfl rfl H79 ?_
        clear H79; intro a80 H80
        refine qpart (d := 72) H80 rfl (fun hg81 => ?_) (fun hg81 => ?_)
        · first
          | fail
          | skip
            clear H80; intro H82
            try simp only [decide_eq_true_eq, decide_eq_false_iff_not, Bool.not_eq_true', Bool.not_eq_false', Bool.and_eq_true, Bool.not_eq_true, Bool.not_eq_false] at hg81
            refine qplain (y_move rfl rfl) rfl rfl rfl H82 ?_
            clear H82; intro a83 H83
            refine qplain (y_move rfl rfl) rfl rfl rfl H83 ?_
            clear H83; intro a84 H84
            refine qplain (y_ixR rfl Tryd.underlying22 z_size30 rfl rfl (by omega) (by omega) (rd_row (by repeat (first | exact Mh | apply Mt))) (by rw [Auction.bdc_len hcw]; omega)) rfl rfl rfl H84 ?_
            clear H84; intro a85 H85
            refine qplain (y_fieldS rfl z_field30_2 rfl (rd_row (by repeat (first | exact Mh | apply Mt))) (by rw [Auction.bdc_len hcw]; omega)) rfl rfl rfl H85 ?_
            clear H85; intro a86 H86
            refine qplain (y_loadR rfl z_agg3 rfl (rd_row (by repeat (first | exact Mh | apply Mt))) (by simp only [Int.toNat_natCast, Nat.zero_add, Nat.add_zero]; exact (show _ = some (i64 ((Auction.counts Y fs r fl).getD k Note.Bid.zero).amount) from Auction.bdc_at (c := 2) hcw hkl (by omega)))) rfl rfl rfl H86 ?_
            clear H86; intro a87 H87
            refine qplain (y_fieldB rfl z_field32_1 rfl (by first | (simp only [Nat.zero_add, Nat.add_zero, Nat.reduceAdd]; rfl) | rfl)) rfl rfl rfl H87 ?_
            clear H87; intro a88 H88
            refine qplain (y_loadB rfl z_agg3 rfl (by repeat (first | exact Mh | apply Mt)) (q_ix_c4b32c1_36 (by assumption))) rfl rfl rfl H88 ?_
            clear H88; intro a89 H89
            refine qplain (y_gtr rfl rfl rfl) rfl rfl rfl H89 ?_
            clear H89; intro a90 H90
            refine qplain (y_pick_t rfl rfl rfl) rfl rfl rfl H90 ?_
            clear H90; intro a91 H91
            refine qplain (y_pick_f rfl rfl rfl) rfl rfl rfl H91 ?_
            clear H91; intro a92 H92
            refine qfin H92 ?_
            clear H92; intro wx93 H93
            refine then_n ?_
            refine cnd H93 rfl (fun hc94 => ?_) (fun hc94 => ?_) -- cond 4
            · (try simp only [decide_eq_true_eq, decide_eq_false_iff_not, Bool.not_eq_true', Bool.not_eq_false', Bool.and_eq_true, Bool.not_eq_true, Bool.not_eq_false] at hc94); (exfalso; have := (hall k hkl).2 (by assumption); omega)
            · skip
              try simp only [decide_eq_true_eq, decide_eq_false_iff_not, Bool.not_eq_true', Bool.not_eq_false', Bool.and_eq_true, Bool.not_eq_true, Bool.not_eq_false] at hc94
              refine wp_skip ?_
              refine then_n ?_
              refine qreg (by kernel_rfl) (by kernel_rfl) H93 ?_
              have F95 := H93.fr
              clear H93
              refine qplain (y_move rfl rfl) rfl rfl rfl F95 ?_
              clear F95; intro a96 H96
              refine qplain (y_move rfl rfl) rfl rfl rfl H96 ?_
              clear H96; intro a97 H97
              refine qpart (d := 84) H97 rfl (fun hg98 => ?_) (fun hg98 => ?_)
              · first
                | fail
                | skip
                  clear H97; intro H99
                  try simp only [decide_eq_true_eq, decide_eq_false_iff_not, Bool.not_eq_true', Bool.not_eq_false', Bool.and_eq_true, Bool.not_eq_true, Bool.not_eq_false] at hg98
                  refine qskip rfl rfl rfl H99 ?_
                  clear H99; intro a100 H100
                  refine qskip rfl rfl rfl H100 ?_
                  clear H100; intro a101 H101
                  refine qskip rfl rfl rfl H101 ?_
                  clear H101; intro a102 H102
                  refine qskip rfl rfl rfl H102 ?_
                  clear H102; intro a103 H103
                  refine qskip rfl rfl rfl H103 ?_
                  clear H103; intro a104 H104
                  refine qskip rfl rfl rfl H104 ?_
                  clear H104; intro a105 H105
                  refine qskip rfl rfl rfl H105 ?_
                  clear H105; intro a106 H106
                  refine qplain (y_pick_t rfl rfl rfl) rfl rfl rfl H106 ?_
                  clear H106; intro a107 H107
                  refine qplain (y_assign rfl rfl) rfl rfl rfl H107 ?_
                  clear H107; intro a108 H108
                  refine qfin H108 ?_
                  clear H108; intro wx109 H109
                  refine inb_n ?_
                  refine then_n ?_
                  refine reg ?_
                  refine plain (y_move rfl rfl) rfl rfl rfl H109 ?_
                  clear H109; intro a110 H110
                  refine plain (y_add rfl rfl rfl (by first | exact w64 (by omega) (by omega) | rfl)) rfl rfl rfl H110 ?_
                  clear H110; intro a111 H111
                  refine plain (y_assign rfl rfl) rfl rfl rfl H111 ?_
                  clear H111; intro a112 H112
                  refine fin ?_
                  refine then_n ?_
                  refine ⟨(k + 1, _), by dsimp only; omega, ⟨by dsimp only; omega, ?_⟩, H112.weak ⟨by first | rfl | exact fi rfl (by dsimp only; omega), by first | rfl | exact fi rfl (by dsimp only; omega), by first | rfl | exact fi rfl (by dsimp only; omega), by first | rfl | exact fi rfl (by dsimp only; omega), by first | rfl | exact fi rfl (by dsimp only; omega), by first | rfl | exact fi rfl (by dsimp only; omega), trivial⟩ rfl⟩ <;> (dsimp only; first | exact Auction.mine_t (hq.1 (by assumption)) | exact Auction.mine_f (p := fun i => (Auction.counts Y fs r fl).getD i Note.Bid.zero = W.1.bid) (fun z => by have := hq.2 z; simp_all))
              · first
                | fail
                | skip
                  clear H97; intro H113
                  try simp only [decide_eq_true_eq, decide_eq_false_iff_not, Bool.not_eq_true', Bool.not_eq_false', Bool.and_eq_true, Bool.not_eq_true, Bool.not_eq_false] at hg98
                  refine qplain (y_move rfl rfl) rfl rfl rfl H113 ?_
                  clear H113; intro a114 H114
                  refine qplain (y_move rfl rfl) rfl rfl rfl H114 ?_
                  clear H114; intro a115 H115
                  refine qplain (y_ixR rfl Tryd.underlying22 z_size30 rfl rfl (by omega) (by omega) (rd_row (by repeat (first | exact Mh | apply Mt))) (by rw [Auction.bdc_len hcw]; omega)) rfl rfl rfl H115 ?_
                  clear H115; intro a116 H116
                  refine qplain (y_loadAS rfl z_agg30 z_size30 rfl (rd_row (by repeat (first | exact Mh | apply Mt))) (show _ = Note.Bid.cells ((Auction.counts Y fs r fl).getD k Note.Bid.zero) from Auction.bdc_take hcw k (by omega)) (Auction.bid_len hwk.tag) (by decide)) rfl rfl rfl H116 ?_
                  clear H116; intro a117 H117
                  refine qplain (y_fieldB rfl z_field32_0 rfl (by first | (simp only [Nat.zero_add, Nat.add_zero, Nat.reduceAdd]; rfl) | rfl)) rfl rfl rfl H117 ?_
                  clear H117; intro a118 H118
                  refine qplain (y_loadAB rfl z_agg30 z_size30 rfl (by repeat (first | exact Mh | apply Mt)) (q_ld_c4b32c1_0_36 (by assumption)) (q_len_c4b32 (by assumption))) rfl rfl rfl H118 ?_
                  clear H118; intro a119 H119
                  refine qplain (y_teql rfl (by kernel_rfl) rfl rfl (eqr_Bid ((Auction.counts Y fs r fl).getD k Note.Bid.zero) W.1.bid hwk.tag hx)) rfl rfl rfl H119 ?_
                  clear H119; intro a120 H120
                  refine qplain (y_pick_f rfl rfl rfl) rfl rfl rfl H120 ?_
                  clear H120; intro a121 H121
                  refine qplain (y_assign rfl rfl) rfl rfl rfl H121 ?_
                  clear H121; intro a122 H122
                  refine qfin H122 ?_
                  clear H122; intro wx123 H123
                  refine inb_n ?_
                  refine then_n ?_
                  refine reg ?_
                  refine plain (y_move rfl rfl) rfl rfl rfl H123 ?_
                  clear H123; intro a124 H124
                  refine plain (y_add rfl rfl rfl (by first | exact w64 (by omega) (by omega) | rfl)) rfl rfl rfl H124 ?_
                  clear H124; intro a125 H125
                  refine plain (y_assign rfl rfl) rfl rfl rfl H125 ?_
                  clear H125; intro a126 H126
                  refine fin ?_
                  refine then_n ?_
                  refine ⟨(k + 1, _), by dsimp only; omega, ⟨by dsimp only; omega, ?_⟩, H126.weak ⟨by first | rfl | exact fi rfl (by dsimp only; omega), by first | rfl | exact fi rfl (by dsimp only; omega), by first | rfl | exact fi rfl (by dsimp only; omega), by first | rfl | exact fi rfl (by dsimp only; omega), by first | rfl | exact fi rfl (by dsimp only; omega), by first | rfl | exact fi rfl (by dsimp only; omega), trivial⟩ rfl⟩ <;> (dsimp only; first | exact Auction.mine_t (hq.1 (by assumption)) | exact Auction.mine_f (p := fun i => (Auction.counts Y fs r fl).getD i Note.Bid.zero = W.1.bid) (fun z => by have := hq.2 z; simp_all))
        · first
          | fail
          | skip
            clear H80; intro H127
            try simp only [decide_eq_true_eq, decide_eq_false_iff_not, Bool.not_eq_true', Bool.not_eq_false', Bool.and_eq_true, Bool.not_eq_true, Bool.not_eq_false] at hg81
            refine qskip rfl rfl rfl H127 ?_
            clear H127; intro a128 H128
            refine qskip rfl rfl rfl H128 ?_
            clear H128; intro a129 H129
            refine qskip rfl rfl rfl H129 ?_
            clear H129; intro a130 H130
            refine qskip rfl rfl rfl H130 ?_
            clear H130; intro a131 H131
            refine qskip rfl rfl rfl H131 ?_
            clear H131; intro a132 H132
            refine qskip rfl rfl rfl H132 ?_
            clear H132; intro a133 H133
            refine qskip rfl rfl rfl H133 ?_
            clear H133; intro a134 H134
            refine qskip rfl rfl rfl H134 ?_
            clear H134; intro a135 H135
            refine qplain (y_pick_f rfl rfl rfl) rfl rfl rfl H135 ?_
            clear H135; intro a136 H136
            refine qplain (y_pick_f rfl rfl rfl) rfl rfl rfl H136 ?_
            clear H136; intro a137 H137
            refine qfin H137 ?_
            clear H137; intro wx138 H138
            refine then_n ?_
            refine cnd_f H138 rfl ?_
            refine wp_skip ?_
            refine then_n ?_
            refine qreg (by kernel_rfl) (by kernel_rfl) H138 ?_
            have F140 := H138.fr
            clear H138
            refine qplain (y_move rfl rfl) rfl rfl rfl F140 ?_
            clear F140; intro a141 H141
            refine qplain (y_move rfl rfl) rfl rfl rfl H141 ?_
            clear H141; intro a142 H142
            refine qpart (d := 84) H142 rfl (fun hg143 => ?_) (fun hg143 => ?_)
            · first
              | fail
              | skip
                clear H142; intro H144
                try simp only [decide_eq_true_eq, decide_eq_false_iff_not, Bool.not_eq_true', Bool.not_eq_false', Bool.and_eq_true, Bool.not_eq_true, Bool.not_eq_false] at hg143
                refine qskip rfl rfl rfl H144 ?_
                clear H144; intro a145 H145
                refine qskip rfl rfl rfl H145 ?_
                clear H145; intro a146 H146
                refine qskip rfl rfl rfl H146 ?_
                clear H146; intro a147 H147
                refine qskip rfl rfl rfl H147 ?_
                clear H147; intro a148 H148
                refine qskip rfl rfl rfl H148 ?_
                clear H148; intro a149 H149
                refine qskip rfl rfl rfl H149 ?_
                clear H149; intro a150 H150
                refine qskip rfl rfl rfl H150 ?_
                clear H150; intro a151 H151
                refine qplain (y_pick_t rfl rfl rfl) rfl rfl rfl H151 ?_
                clear H151; intro a152 H152
                refine qplain (y_assign rfl rfl) rfl rfl rfl H152 ?_
                clear H152; intro a153 H153
                refine qfin H153 ?_
                clear H153; intro wx154 H154
                refine inb_n ?_
                refine then_n ?_
                refine reg ?_
                refine plain (y_move rfl rfl) rfl rfl rfl H154 ?_
                clear H154; intro a155 H155
                refine plain (y_add rfl rfl rfl (by first | exact w64 (by omega) (by omega) | rfl)) rfl rfl rfl H155 ?_
                clear H155; intro a156 H156
                refine plain (y_assign rfl rfl) rfl rfl rfl H156 ?_
                clear H156; intro a157 H157
                refine fin ?_
                refine then_n ?_
                refine ⟨(k + 1, _), by dsimp only; omega, ⟨by dsimp only; omega, ?_⟩, H157.weak ⟨by first | rfl | exact fi rfl (by dsimp only; omega), by first | rfl | exact fi rfl (by dsimp only; omega), by first | rfl | exact fi rfl (by dsimp only; omega), by first | rfl | exact fi rfl (by dsimp only; omega), by first | rfl | exact fi rfl (by dsimp only; omega), by first | rfl | exact fi rfl (by dsimp only; omega), trivial⟩ rfl⟩ <;> (dsimp only; first | exact Auction.mine_t (hq.1 (by assumption)) | exact Auction.mine_f (p := fun i => (Auction.counts Y fs r fl).getD i Note.Bid.zero = W.1.bid) (fun z => by have := hq.2 z; simp_all))
            · first
              | fail
              | skip
                clear H142; intro H158
                try simp only [decide_eq_true_eq, decide_eq_false_iff_not, Bool.not_eq_true', Bool.not_eq_false', Bool.and_eq_true, Bool.not_eq_true, Bool.not_eq_false] at hg143
                refine qplain (y_move rfl rfl) rfl rfl rfl H158 ?_
                clear H158; intro a159 H159
                refine qplain (y_move rfl rfl) rfl rfl rfl H159 ?_
                clear H159; intro a160 H160
                refine qplain (y_ixR rfl Tryd.underlying22 z_size30 rfl rfl (by omega) (by omega) (rd_row (by repeat (first | exact Mh | apply Mt))) (by rw [Auction.bdc_len hcw]; omega)) rfl rfl rfl H160 ?_
                clear H160; intro a161 H161
                refine qplain (y_loadAS rfl z_agg30 z_size30 rfl (rd_row (by repeat (first | exact Mh | apply Mt))) (show _ = Note.Bid.cells ((Auction.counts Y fs r fl).getD k Note.Bid.zero) from Auction.bdc_take hcw k (by omega)) (Auction.bid_len hwk.tag) (by decide)) rfl rfl rfl H161 ?_
                clear H161; intro a162 H162
                refine qplain (y_fieldB rfl z_field32_0 rfl (by first | (simp only [Nat.zero_add, Nat.add_zero, Nat.reduceAdd]; rfl) | rfl)) rfl rfl rfl H162 ?_
                clear H162; intro a163 H163
                refine qplain (y_loadAB rfl z_agg30 z_size30 rfl (by repeat (first | exact Mh | apply Mt)) (q_ld_c4b32c1_0_36 (by assumption)) (q_len_c4b32 (by assumption))) rfl rfl rfl H163 ?_
                clear H163; intro a164 H164
                refine qplain (y_teql rfl (by kernel_rfl) rfl rfl (eqr_Bid ((Auction.counts Y fs r fl).getD k Note.Bid.zero) W.1.bid hwk.tag hx)) rfl rfl rfl H164 ?_
                clear H164; intro a165 H165
                refine qplain (y_pick_f rfl rfl rfl) rfl rfl rfl H165 ?_
                clear H165; intro a166 H166
                refine qplain (y_assign rfl rfl) rfl rfl rfl H166 ?_
                clear H166; intro a167 H167
                refine qfin H167 ?_
                clear H167; intro wx168 H168
                refine inb_n ?_
                refine then_n ?_
                refine reg ?_
                refine plain (y_move rfl rfl) rfl rfl rfl H168 ?_
                clear H168; intro a169 H169
                refine plain (y_add rfl rfl rfl (by first | exact w64 (by omega) (by omega) | rfl)) rfl rfl rfl H169 ?_
                clear H169; intro a170 H170
                refine plain (y_assign rfl rfl) rfl rfl rfl H170 ?_
                clear H170; intro a171 H171
                refine fin ?_
                refine then_n ?_
                refine ⟨(k + 1, _), by dsimp only; omega, ⟨by dsimp only; omega, ?_⟩, H171.weak ⟨by first | rfl | exact fi rfl (by dsimp only; omega), by first | rfl | exact fi rfl (by dsimp only; omega), by first | rfl | exact fi rfl (by dsimp only; omega), by first | rfl | exact fi rfl (by dsimp only; omega), by first | rfl | exact fi rfl (by dsimp only; omega), by first | rfl | exact fi rfl (by dsimp only; omega), trivial⟩ rfl⟩ <;> (dsimp only; first | exact Auction.mine_t (hq.1 (by assumption)) | exact Auction.mine_f (p := fun i => (Auction.counts Y fs r fl).getD i Note.Bid.zero = W.1.bid) (fun z => by have := hq.2 z; simp_all))
      · skip
        try simp only [decide_eq_true_eq, decide_eq_false_iff_not, Bool.not_eq_true', Bool.not_eq_false', Bool.and_eq_true, Bool.not_eq_true, Bool.not_eq_false] at hc57
        refine wp_exit ?_
        refine then_x ?_
        refine then_x ?_
        refine inb_hit ?_
        refine then_n ?_
        refine wp_seq ?_
        refine reg ?_
        refine plain (y_move rfl rfl) rfl rfl rfl H56 ?_
        clear H56; intro a172 H172
        refine plain (y_move rfl rfl) rfl rfl rfl H172 ?_
        clear H172; intro a173 H173
        have H175 := H173.know (d := 94) (v := .bool true) rfl (congrArg Value.bool (hq.2 (by obtain ⟨i, h1, h2⟩ := hex; exact ⟨i, by omega, h2⟩)))
        clear H173
        refine plain (y_fieldB rfl z_field32_1 rfl (by first | (simp only [Nat.zero_add, Nat.add_zero, Nat.reduceAdd]; rfl) | rfl)) rfl rfl rfl H175 ?_
        clear H175; intro a176 H176
        refine plain (y_loadB rfl z_agg3 rfl (by repeat (first | exact Mh | apply Mt)) (q_ix_c4b32c1_36 (by assumption))) rfl rfl rfl H176 ?_
        clear H176; intro a177 H177
        refine plain (y_fieldB rfl z_field25_3 rfl (by first | (simp only [Nat.zero_add, Nat.add_zero, Nat.reduceAdd]; rfl) | rfl)) rfl rfl rfl H177 ?_
        clear H177; intro a178 H178
        refine plain (y_loadB rfl z_agg3 rfl (by repeat (first | exact Mh | apply Mt)) q_ix_c4_3) rfl rfl rfl H178 ?_
        clear H178; intro a179 H179
        refine plain (y_geq rfl rfl rfl) rfl rfl rfl H179 ?_
        clear H179; intro a180 H180
        refine plain (y_pick_t rfl rfl rfl) rfl rfl rfl H180 ?_
        clear H180; intro a181 H181
        refine plain (y_move rfl rfl) rfl rfl rfl H181 ?_
        clear H181; intro a182 H182
        have H184 := H182.know (d := 101) (v := .bool true) rfl (congrArg Value.bool (decide_eq_true (hge)))
        clear H182
        refine plain (y_fieldB rfl z_field32_1 rfl (by first | (simp only [Nat.zero_add, Nat.add_zero, Nat.reduceAdd]; rfl) | rfl)) rfl rfl rfl H184 ?_
        clear H184; intro a185 H185
        refine plain (y_loadB rfl z_agg3 rfl (by repeat (first | exact Mh | apply Mt)) (q_ix_c4b32c1_36 (by assumption))) rfl rfl rfl H185 ?_
        clear H185; intro a186 H186
        refine plain (y_fieldB rfl z_field32_0 rfl (by first | (simp only [Nat.zero_add, Nat.add_zero, Nat.reduceAdd]; rfl) | rfl)) rfl rfl rfl H186 ?_
        clear H186; intro a187 H187
        refine plain (y_fieldB rfl z_field30_2 rfl (by first | (simp only [Nat.zero_add, Nat.add_zero, Nat.reduceAdd]; rfl) | rfl)) rfl rfl rfl H187 ?_
        clear H187; intro a188 H188
        refine plain (y_loadB rfl z_agg3 rfl (by repeat (first | exact Mh | apply Mt)) q_ix_c4b32c1_2) rfl rfl rfl H188 ?_
        clear H188; intro a189 H189
        refine plain (y_leq rfl rfl rfl) rfl rfl rfl H189 ?_
        clear H189; intro a190 H190
        refine plain (y_pick_t rfl rfl rfl) rfl rfl rfl H190 ?_
        clear H190; intro a191 H191
        refine plain (y_assign rfl rfl) rfl rfl rfl H191 ?_
        clear H191; intro a192 H192
        refine fin ?_
        refine then_n ?_
        refine wp_ret ?_
        -- return 2
        refine ret1 rfl H192 rfl ?_
        first | (exact ⟨_, [], rfl, ⟨congrArg Value.bool (decide_eq_true (by rw [hW]; exact Auction.win_not (by rw [← hW]; exact hwn))), rfl⟩, H192.sep.sub (List.nil_sublist _)⟩) | (exact ⟨_, [], rfl, ⟨congrArg Value.bool (decide_eq_true hle), rfl⟩, H192.sep.sub (List.nil_sublist _)⟩) | (exact ⟨_, [], rfl, ⟨rfl, rfl⟩, H192.sep.sub (List.nil_sublist _)⟩)

end Go.Proofs.YtaeahloenahelaaDoor.A_L2

set_option linter.unusedVariables false
set_option linter.unusedSimpArgs false
namespace Go.Proofs.YtaeahloenahelaaDoor.A_Rd
open Go.Sx Go.RowKit

theorem rd_Bid {H : Type} {enc : TypeId × Value → H} {W : World} {sp : Nat → Bool} {held : Bool} {cs : List Value} (h : Trw enc Tryd.prog W sp held 30 cs) : ∃ (x : Note.Bid), cs = Note.Bid.cells x ∧ Note.Bid.Wf x := by
  have hp := h.pieces Tryd.underlying30 [1, 1, 1, 1, 32] (by kernel_rfl)
  obtain ⟨v0, e0, w0⟩ := (h.field Tryd.underlying30 0 rfl (o := 0) rfl (T := 3) rfl (k := 1) (by kernel_rfl)).i64 Tryd.underlying3
  obtain ⟨v1, e1, w1⟩ := (h.field Tryd.underlying30 1 rfl (o := 1) rfl (T := 3) rfl (k := 1) (by kernel_rfl)).i64 Tryd.underlying3
  obtain ⟨v2, e2, w2⟩ := (h.field Tryd.underlying30 2 rfl (o := 2) rfl (T := 3) rfl (k := 1) (by kernel_rfl)).i64 Tryd.underlying3
  obtain ⟨v3, e3, w3⟩ := (h.field Tryd.underlying30 3 rfl (o := 3) rfl (T := 3) rfl (k := 1) (by kernel_rfl)).i64 Tryd.underlying3
  obtain ⟨v4, e4, w4⟩ := (h.field Tryd.underlying30 4 rfl (o := 4) rfl (T := 28) rfl (k := 32) (by kernel_rfl)).bytes Tryd.underlying28 Tryd.underlying5 (by kernel_rfl) (by kernel_rfl)
  refine ⟨⟨v0, v1, v2, v3, v4⟩, ?_, w0, w1, w2, w3, w4⟩
  rw [hp]
  simp only [Sx.pieces, Nat.zero_add, Nat.reduceAdd, e0, e1, e2, e3, e4]
  first | rfl | simp [Note.Bid.cells]
theorem rd_Case {H : Type} {enc : TypeId × Value → H} {W : World} {sp : Nat → Bool} {held : Bool} {cs : List Value} (h : Trw enc Tryd.prog W sp held 25 cs) : ∃ (x : Auction.Case), cs = Auction.Case.cells x ∧ Auction.Case.Wf W x := by
  have hp := h.pieces Tryd.underlying25 [1, 1, 1, 1] (by kernel_rfl)
  obtain ⟨A0, m0, c0, e0, hmc0, hm0, rows0, hr0, hR0, hrow0⟩ := (h.field Tryd.underlying25 0 rfl (o := 0) rfl (T := 22) rfl (k := 1) (by kernel_rfl)).sliceC Tryd.underlying22 (by rw [show Tryd.prog.cellsOf 30 = 36 by kernel_rfl]; decide)
  obtain ⟨v0, rfl, w0⟩ := rows_map (f := Note.Bid.cells) (rows := rows0) (fun r hr => rd_Bid (hrow0 r hr).2)
  simp only [List.length_map] at hr0
  subst hr0
  obtain ⟨A1, m1, c1, e1, hmc1, hm1, rows1, hr1, hR1, hrow1⟩ := (h.field Tryd.underlying25 1 rfl (o := 1) rfl (T := 23) rfl (k := 1) (by kernel_rfl)).sliceC Tryd.underlying23 (by rw [show Tryd.prog.cellsOf 3 = 1 by kernel_rfl]; decide)
  obtain ⟨v1, rfl, w1⟩ := rows_map (f := (fun n : Int => [i64 n])) (rows := rows1) (fun r hr => Trw.i64 (hrow1 r hr).2 Tryd.underlying3)
  simp only [List.length_map] at hr1
  subst hr1
  rw [Auction.flat_one] at hR1
  obtain ⟨v2, e2, w2⟩ := (h.field Tryd.underlying25 2 rfl (o := 2) rfl (T := 3) rfl (k := 1) (by kernel_rfl)).i64 Tryd.underlying3
  obtain ⟨v3, e3, w3⟩ := (h.field Tryd.underlying25 3 rfl (o := 3) rfl (T := 3) rfl (k := 1) (by kernel_rfl)).i64 Tryd.underlying3
  refine ⟨⟨v0, A0, c0, v1, A1, c1, v2, v3⟩, ?_, hmc0, hm1, w0, hR0, hR1⟩
  rw [hp]
  simp only [Sx.pieces, Nat.zero_add, Nat.reduceAdd, e0, e1, e2, e3]
  first | rfl | simp [Auction.Case.cells]

end Go.Proofs.YtaeahloenahelaaDoor.A_Rd
