/- Part of a proof about given Go functions: contracts of functions, or plain laws. -/
import Derived.Test.YtbdkgmkaakoigaaDoorInboxX
import Derived.Test.YtbdkgmkaakoigaaDoorSxK
import Derived.Test.YtbdkgmkaakoigaaDoorSxI
import Derived.Test.YtbdkgmkaakoigaaDoorInboxA
import Derived.Test.YtbdkgmkaakoigaaDoorSxTx
import Derived.Test.YtbdkgmkaakoigaaDoorProg
import Derived.Test.YtbdkgmkaakoigaaDoorW1
import Derived.Test.YtbdkgmkaakoigaaDoorInboxW
set_option linter.unusedVariables false
set_option linter.unusedSimpArgs false
namespace Go.Proofs.YtbdkgmkaakoigaaDoor.I_Aw
open Go.Sx Go.RowKit Go.Proofs.YtbdkgmkaakoigaaDoor.I_Block Go.Proofs.YtbdkgmkaakoigaaDoor.I_Sum Go.Proofs.YtbdkgmkaakoigaaDoor.I_Ref Go.Proofs.YtbdkgmkaakoigaaDoor.I_RSum Go.Proofs.YtbdkgmkaakoigaaDoor.I_Num Go.Proofs.YtbdkgmkaakoigaaDoor.I_Lay Go.Proofs.YtbdkgmkaakoigaaDoor.I_Leaf Go.Proofs.YtbdkgmkaakoigaaDoor.I_Item Go.Proofs.YtbdkgmkaakoigaaDoor.I_RefI Go.Proofs.YtbdkgmkaakoigaaDoor.I_Eq Go.Proofs.YtbdkgmkaakoigaaDoor.I_Put Go.Proofs.YtbdkgmkaakoigaaDoor.I_Msg Go.Proofs.YtbdkgmkaakoigaaDoor.I_Reach

theorem z_zeroN51 : zeroL Tryd.prog 51 = some ((.int .i64 0 :: (.int .i64 0 :: (.int .i64 0 :: (.string ⟨#[]⟩ :: []))))) := by kernel_rfl
theorem z_places51 : placesB Tryd.prog 51 = some [(0, 1), (1, 1), (2, 1), (3, 1)] := by kernel_rfl
theorem q_len_c4 {a0 a1 a2 a3 : Value} : (a0 :: a1 :: a2 :: a3 :: []).length = 4 := (len_c (n := 3) (len_c (n := 2) (len_c (n := 1) (len_c (n := 0) len_n))))
theorem q_spl_c4_0_c1 {a0 a1 a2 a3 : Value} {b0 : Value} : spl (a0 :: a1 :: a2 :: a3 :: []) 0 (b0 :: []) = b0 :: a1 :: a2 :: a3 :: [] := spl_0
theorem q_spl_c4_1_c1 {a0 a1 a2 a3 : Value} {b0 : Value} : spl (a0 :: a1 :: a2 :: a3 :: []) 1 (b0 :: []) = a0 :: b0 :: a2 :: a3 :: [] := (spl_c (o := 0) spl_0)
theorem q_spl_c4_3_c1 {a0 a1 a2 a3 : Value} {b0 : Value} : spl (a0 :: a1 :: a2 :: a3 :: []) 3 (b0 :: []) = a0 :: a1 :: a2 :: b0 :: [] := (spl_c (o := 2) (spl_c (o := 1) (spl_c (o := 0) spl_0)))
theorem q_spl_c4_2_c1 {a0 a1 a2 a3 : Value} {b0 : Value} : spl (a0 :: a1 :: a2 :: a3 :: []) 2 (b0 :: []) = a0 :: a1 :: b0 :: a3 :: [] := (spl_c (o := 1) (spl_c (o := 0) spl_0))
theorem z_size51 : sizeB Tryd.prog 51 = some 4 := by kernel_rfl
theorem z_zero51 : zeroL Tryd.prog 51 = some ([.int .i64 0, .int .i64 0, .int .i64 0, .string ⟨#[]⟩]) := by kernel_rfl
theorem z_zeroN49 : zeroL Tryd.prog 49 = some ((.int .i64 0 :: (.int .i64 0 :: ((List.replicate 32 (0 : UInt8)).map u8 ++ (.slice none 0 0 :: []))))) := by kernel_rfl
theorem z_places49 : placesB Tryd.prog 49 = some [(0, 1), (1, 1), (2, 32), (34, 1)] := by kernel_rfl
theorem q_len_c2b32c1 {a0 a1 a3 : Value} {t2 : List UInt8} (h2 : t2.length = 32) : (a0 :: a1 :: (t2.map u8 ++ (a3 :: []))).length = 35 := (len_c (n := 34) (len_c (n := 33) (len_b (k := 32) (n := 1) h2 (len_c (n := 0) len_n))))
theorem q_spl_c2b32c1_0_c1 {a0 a1 a3 : Value} {t2 : List UInt8} {b0 : Value} : spl (a0 :: a1 :: (t2.map u8 ++ (a3 :: []))) 0 (b0 :: []) = b0 :: a1 :: (t2.map u8 ++ (a3 :: [])) := spl_0
theorem q_spl_c2b32c1_34_c1 {a0 a1 a3 : Value} {t2 : List UInt8} {b0 : Value} (h2 : t2.length = 32) : spl (a0 :: a1 :: (t2.map u8 ++ (a3 :: []))) 34 (b0 :: []) = a0 :: a1 :: (t2.map u8 ++ (b0 :: [])) := (spl_c (o := 33) (spl_c (o := 32) (spl_b (k := 32) (o := 0) h2 rfl spl_0)))
theorem z_size49 : sizeB Tryd.prog 49 = some 35 := by kernel_rfl
theorem z_zero49 : zeroL Tryd.prog 49 = some ([.int .i64 0, .int .i64 0, .int .u8 0, .int .u8 0, .int .u8 0, .int .u8 0, .int .u8 0, .int .u8 0, .int .u8 0, .int .u8 0, .int .u8 0, .int .u8 0, .int .u8 0, .int .u8 0, .int .u8 0, .int .u8 0, .int .u8 0, .int .u8 0, .int .u8 0, .int .u8 0, .int .u8 0, .int .u8 0, .int .u8 0, .int .u8 0, .int .u8 0, .int .u8 0, .int .u8 0, .int .u8 0, .int .u8 0, .int .u8 0, .int .u8 0, .int .u8 0, .int .u8 0, .int .u8 0, .slice none 0 0]) := by kernel_rfl
theorem z_call11 : callB Tryd.prog 11 = true := by kernel_rfl
theorem z_size38 : sizeB Tryd.prog 38 = some 35 := by kernel_rfl
theorem z_field38_2 : fieldB Tryd.prog 38 2 = some 2 := by kernel_rfl
theorem z_agg3 : aggB Tryd.prog 3 = some false := by kernel_rfl
theorem z_field38_3 : fieldB Tryd.prog 38 3 = some 3 := by kernel_rfl
theorem z_agg33 : aggB Tryd.prog 33 = some true := by kernel_rfl
theorem z_size33 : sizeB Tryd.prog 33 = some 32 := by kernel_rfl
theorem z_zeroN33 : zeroL Tryd.prog 33 = some ((List.replicate 32 (0 : UInt8)).map u8) := by kernel_rfl
theorem z_size5 : sizeB Tryd.prog 5 = some 1 := by kernel_rfl
theorem z_call9 : callB Tryd.prog 9 = true := by kernel_rfl

set_option maxRecDepth 100000 in
set_option maxHeartbeats 1000000 in
theorem iawake {w : World} (hG : Glob 0 Sha.K w) : Calls Tryd.prog 8 #[] w (Gives (.bool true) [] w) := by
  have lz32 : (List.replicate 32 (0 : UInt8)).length = 32 := List.length_replicate
  refine enterL (args := []) Tryd.func8 rfl rfl (l := []) (Sep.refl _) ?_
  intro a0 H0
  refine wp_seq ?_
  refine reg ?_
  refine plain (y_assign rfl rfl) rfl rfl rfl H0 ?_
  clear H0; intro a1 H1
  refine fin ?_
  refine then_n ?_
  refine wp_seq ?_
  refine reg ?_
  refine plain (y_build rfl z_zeroN51 z_places51 rfl (lay_1 (off := 0) (n := 4) rfl q_len_c4 (by decide) q_spl_c4_0_c1 (lay_1 (off := 1) (n := 4) rfl q_len_c4 (by decide) q_spl_c4_1_c1 (lay_1 (off := 3) (n := 4) rfl q_len_c4 (by decide) q_spl_c4_3_c1 lay_n (by rfl)) (by rfl)) (by rfl))) rfl rfl rfl H1 ?_
  clear H1; intro a2 H2
  refine plain (y_build rfl z_zeroN51 z_places51 rfl (lay_1 (off := 0) (n := 4) rfl q_len_c4 (by decide) q_spl_c4_0_c1 (lay_1 (off := 2) (n := 4) rfl q_len_c4 (by decide) q_spl_c4_2_c1 lay_n (by rfl)) (by rfl))) rfl rfl rfl H2 ?_
  clear H2; intro a3 H3
  refine st_buildSlice rfl Tryd.underlying47 z_size51 z_zero51 rfl rfl rfl (lay_agg2 (agg_cells _) (agg_cells _) rfl rfl rfl) rfl rfl rfl H3 ?_
  clear H3; intro b4 a4 wx4 H4
  refine plain (y_build rfl z_zeroN49 z_places49 rfl (lay_1 (off := 0) (n := 35) rfl (q_len_c2b32c1 (by first | assumption | exact Inbox.aw_len)) (by decide) q_spl_c2b32c1_0_c1 (lay_1 (off := 34) (n := 35) rfl (q_len_c2b32c1 (by first | assumption | exact Inbox.aw_len)) (by decide) (q_spl_c2b32c1_34_c1 (by first | assumption | exact Inbox.aw_len)) lay_n (by rfl)) (by rfl))) rfl rfl rfl H4 ?_
  clear H4; intro a5 H5
  refine st_buildSlice rfl Tryd.underlying28 z_size49 z_zero49 rfl rfl rfl (lay_agg (agg_cells _) (by simp) (by simp)) rfl rfl rfl H5 ?_
  clear H5; intro b6 a6 wx6 H6
  refine st_call rfl z_call11 rfl rfl rfl rfl H6 (imsgs [⟨Inbox.awB, some ⟨b4, 0, none⟩, 2⟩] (some ⟨b6, 0, none⟩) 1 1 rfl (by simp) (Inbox.aw_wf (Rd.ofSep (rd_blkA (by repeat (first | exact Mh | apply Mt))) H6.sep)) Inbox.aw_hit (by rw [Inbox.bc_one]; exact Rd.ofSep (rd_blkA (by repeat (first | exact Mh | apply Mt))) H6.sep) (hG.frm H6.sep.frm (by simp))) ?_
  clear H6; intro v7 l7 a7 wx7 hf7 H7
  obtain rfl := hf7
  simp only [List.cons_append, List.nil_append] at H7
  obtain ⟨ArM, crM, hvrM, hRrM, hmrM⟩ := row_shape (v := v7) H7.sep (by repeat (first | exact Mh | apply Mt))
  subst hvrM
  simp only [Inbox.aw_msgs', List.length_singleton] at *
  refine plain (y_assign rfl rfl) rfl rfl rfl H7 ?_
  clear H7; intro a8 H8
  refine fin ?_
  refine then_n ?_
  refine wp_seq ?_
  refine reg ?_
  refine plain (y_move rfl rfl) rfl rfl rfl H8 ?_
  clear H8; intro a9 H9
  refine plain (y_len rfl Tryd.underlying22 rfl) rfl rfl rfl H9 ?_
  clear H9; intro a10 H10
  refine plain (y_eql rfl rfl rfl) rfl rfl rfl H10 ?_
  clear H10; intro a11 H11
  refine plain (y_move rfl rfl) rfl rfl rfl H11 ?_
  clear H11; intro a12 H12
  have H14 := H12.know (d := 11) (v := .bool true) rfl (congrArg Value.bool (decide_eq_true (rfl)))
  clear H12
  refine plain (y_move rfl rfl) rfl rfl rfl H14 ?_
  clear H14; intro a15 H15
  refine plain (y_ixR rfl Tryd.underlying22 z_size38 rfl rfl (by omega) (by omega) (rd_row (by repeat (first | exact Mh | apply Mt))) (by first | decide | (rw [Inbox.ec_len (by simpa using Inbox.aw_len)]; decide))) rfl rfl rfl H15 ?_
  clear H15; intro a16 H16
  refine plain (y_fieldS rfl z_field38_2 rfl (rd_row (by repeat (first | exact Mh | apply Mt))) (by first | decide | (rw [Inbox.ec_len (by simpa using Inbox.aw_len)]; decide))) rfl rfl rfl H16 ?_
  clear H16; intro a17 H17
  refine plain (y_loadR rfl z_agg3 rfl (rd_row (by repeat (first | exact Mh | apply Mt))) Inbox.aw_blk) rfl rfl rfl H17 ?_
  clear H17; intro a18 H18
  refine plain (y_eql rfl rfl rfl) rfl rfl rfl H18 ?_
  clear H18; intro a19 H19
  refine plain (y_pick_t rfl rfl rfl) rfl rfl rfl H19 ?_
  clear H19; intro a20 H20
  refine plain (y_move rfl rfl) rfl rfl rfl H20 ?_
  clear H20; intro a21 H21
  have H23 := H21.know (d := 18) (v := .bool true) rfl (congrArg Value.bool (decide_eq_true (rfl)))
  clear H21
  refine plain (y_move rfl rfl) rfl rfl rfl H23 ?_
  clear H23; intro a24 H24
  refine plain (y_ixR rfl Tryd.underlying22 z_size38 rfl rfl (by omega) (by omega) (rd_row (by repeat (first | exact Mh | apply Mt))) (by first | decide | (rw [Inbox.ec_len (by simpa using Inbox.aw_len)]; decide))) rfl rfl rfl H24 ?_
  clear H24; intro a25 H25
  refine plain (y_fieldS rfl z_field38_3 rfl (rd_row (by repeat (first | exact Mh | apply Mt))) (by first | decide | (rw [Inbox.ec_len (by simpa using Inbox.aw_len)]; decide))) rfl rfl rfl H25 ?_
  clear H25; intro a26 H26
  refine plain (y_loadAS rfl z_agg33 z_size33 rfl (rd_row (by repeat (first | exact Mh | apply Mt))) Inbox.aw_acc (by rw [List.length_map]; exact Inbox.aw_len) (by decide)) rfl rfl rfl H26 ?_
  clear H26; intro a27 H27
  refine plain (y_buildA rfl z_zeroN33 Tryd.underlying33 z_size5 rfl lay_n) rfl rfl rfl H27 ?_
  clear H27; intro a28 H28
  refine plain (y_hneq rfl Tryd.eqGuardType33 Tryd.underlying33 Tryd.underlying5 z_size5 rfl rfl (by first | assumption | exact Inbox.aw_len) (by first | assumption | exact Inbox.aw_len)) rfl rfl rfl H28 ?_
  clear H28; intro a29 H29
  refine plain (y_pick_t rfl rfl rfl) rfl rfl rfl H29 ?_
  clear H29; intro a30 H30
  refine plain (y_move rfl rfl) rfl rfl rfl H30 ?_
  clear H30; intro a31 H31
  have H33 := H31.know (d := 26) (v := .bool true) rfl (congrArg Value.bool (decide_eq_true (Inbox.aw_ne)))
  clear H31
  refine plain (y_move rfl rfl) rfl rfl rfl H33 ?_
  clear H33; intro a34 H34
  refine st_callg rfl z_call9 rfl rfl rfl rfl H34 (ireach [Inbox.awE] (by simpa using Inbox.aw_len) _ _ _ rfl (by simp) _ _ _ ⟨by decide, by decide⟩ ⟨by decide, by decide⟩ ⟨by decide, by decide⟩ (Rd.ofSep (rd_row (by repeat (first | exact Mh | apply Mt))) H34.sep)) ?_
  clear H34; intro a35 wx35 H35
  refine plain (y_eql rfl rfl rfl) rfl rfl rfl H35 ?_
  clear H35; intro a36 H36
  refine plain (y_pick_t rfl rfl rfl) rfl rfl rfl H36 ?_
  clear H36; intro a37 H37
  refine plain (y_move rfl rfl) rfl rfl rfl H37 ?_
  clear H37; intro a38 H38
  have H40 := H38.know (d := 31) (v := .bool true) rfl (congrArg Value.bool (decide_eq_true (by rw [Inbox.aw_reach1 _ rfl]; rfl)))
  clear H38
  refine plain (y_move rfl rfl) rfl rfl rfl H40 ?_
  clear H40; intro a41 H41
  refine st_callg rfl z_call9 rfl rfl rfl rfl H41 (ireach [Inbox.awE] (by simpa using Inbox.aw_len) _ _ _ rfl (by simp) _ _ _ ⟨by decide, by decide⟩ ⟨by decide, by decide⟩ ⟨by decide, by decide⟩ (Rd.ofSep (rd_row (by repeat (first | exact Mh | apply Mt))) H41.sep)) ?_
  clear H41; intro a42 wx42 H42
  refine plain (y_eql rfl rfl rfl) rfl rfl rfl H42 ?_
  clear H42; intro a43 H43
  refine plain (y_pick_t rfl rfl rfl) rfl rfl rfl H43 ?_
  clear H43; intro a44 H44
  refine plain (y_assign rfl rfl) rfl rfl rfl H44 ?_
  clear H44; intro a45 H45
  refine fin ?_
  refine then_n ?_
  refine wp_ret ?_
  -- return 1
  refine ret1 rfl H45 rfl ?_
  exact ⟨_, [], rfl, ⟨congrArg Value.bool (decide_eq_true (by rw [Inbox.aw_reach0 _ rfl]; rfl)), rfl⟩, H45.sep.sub (List.nil_sublist _)⟩

end Go.Proofs.YtbdkgmkaakoigaaDoor.I_Aw

set_option linter.unusedVariables false
set_option linter.unusedSimpArgs false
namespace Go.Proofs.YtbdkgmkaakoigaaDoor.I_For
open Go.Sx Go.RowKit Go.Proofs.YtbdkgmkaakoigaaDoor.I_Block Go.Proofs.YtbdkgmkaakoigaaDoor.I_Sum Go.Proofs.YtbdkgmkaakoigaaDoor.I_Ref Go.Proofs.YtbdkgmkaakoigaaDoor.I_RSum Go.Proofs.YtbdkgmkaakoigaaDoor.I_Num Go.Proofs.YtbdkgmkaakoigaaDoor.I_Lay Go.Proofs.YtbdkgmkaakoigaaDoor.I_Leaf Go.Proofs.YtbdkgmkaakoigaaDoor.I_Item Go.Proofs.YtbdkgmkaakoigaaDoor.I_RefI Go.Proofs.YtbdkgmkaakoigaaDoor.I_Eq

theorem z_field49_3 : fieldB Tryd.prog 49 3 = some 34 := by kernel_rfl
theorem z_agg47 : aggB Tryd.prog 47 = some false := by kernel_rfl
theorem q_ix_c2b32c1_34 {a0 a1 a3 : Value} {t2 : List UInt8} (h2 : t2.length = 32) : (a0 :: a1 :: (t2.map u8 ++ (a3 :: [])))[34]? = some a3 := (ix_c (o := 33) (ix_c (o := 32) (ix_b (k := 32) (o := 0) h2 rfl ix_0)))
theorem z_size51 : sizeB Tryd.prog 51 = some 4 := by kernel_rfl
theorem z_agg51 : aggB Tryd.prog 51 = some true := by kernel_rfl
theorem z_zeroN51 : zeroL Tryd.prog 51 = some ((.int .i64 0 :: (.int .i64 0 :: (.int .i64 0 :: (.string ⟨#[]⟩ :: []))))) := by kernel_rfl
theorem q_one_c4 {a0 a1 a2 a3 : Value} (o0 : a0.oneCell' = true) (o1 : a1.oneCell' = true) (o2 : a2.oneCell' = true) (o3 : a3.oneCell' = true) : (a0 :: a1 :: a2 :: a3 :: []).all (·.oneCell') = true := (one_c o0 (one_c o1 (one_c o2 (one_c o3 one_n))))
theorem q_len_c4 {a0 a1 a2 a3 : Value} : (a0 :: a1 :: a2 :: a3 :: []).length = 4 := (len_c (n := 3) (len_c (n := 2) (len_c (n := 1) (len_c (n := 0) len_n))))
theorem q_spl_c4_0_c4 {a0 a1 a2 a3 : Value} {b0 b1 b2 b3 : Value} : spl (a0 :: a1 :: a2 :: a3 :: []) 0 (b0 :: b1 :: b2 :: b3 :: []) = b0 :: b1 :: b2 :: b3 :: [] := (spl_a (z := 4) (len_c (n := 3) (len_c (n := 2) (len_c (n := 1) (len_c (n := 0) len_n)))) (len_c (n := 3) (len_c (n := 2) (len_c (n := 1) (len_c (n := 0) len_n)))))
theorem q_ld_c4_0_4 {a0 a1 a2 a3 : Value} : ((a0 :: a1 :: a2 :: a3 :: []).drop 0).take 4 = a0 :: a1 :: a2 :: a3 :: [] := (ld_a (len_c (n := 3) (len_c (n := 2) (len_c (n := 1) (len_c (n := 0) len_n)))))
theorem z_call24 : callB Tryd.prog 24 = true := by kernel_rfl
theorem z_field51_0 : fieldB Tryd.prog 51 0 = some 0 := by kernel_rfl
theorem z_agg3 : aggB Tryd.prog 3 = some false := by kernel_rfl
theorem q_ix_c4_0 {a0 a1 a2 a3 : Value} : (a0 :: a1 :: a2 :: a3 :: [])[0]? = some a0 := ix_0
theorem z_field51_2 : fieldB Tryd.prog 51 2 = some 2 := by kernel_rfl
theorem q_ix_c4_2 {a0 a1 a2 a3 : Value} : (a0 :: a1 :: a2 :: a3 :: [])[2]? = some a2 := (ix_c (o := 1) (ix_c (o := 0) ix_0))
theorem z_size3 : sizeB Tryd.prog 3 = some 1 := by kernel_rfl
theorem z_zero3 : zeroL Tryd.prog 3 = some ([.int .i64 0]) := by kernel_rfl
end Go.Proofs.YtbdkgmkaakoigaaDoor.I_For

set_option linter.unusedVariables false
set_option linter.unusedSimpArgs false
namespace Go.Proofs.YtbdkgmkaakoigaaDoor.I_RFor
open Go.Sx Go.RowKit Go.Proofs.YtbdkgmkaakoigaaDoor.I_Block Go.Proofs.YtbdkgmkaakoigaaDoor.I_Sum Go.Proofs.YtbdkgmkaakoigaaDoor.I_Ref Go.Proofs.YtbdkgmkaakoigaaDoor.I_RSum Go.Proofs.YtbdkgmkaakoigaaDoor.I_Num Go.Proofs.YtbdkgmkaakoigaaDoor.I_Lay Go.Proofs.YtbdkgmkaakoigaaDoor.I_Leaf Go.Proofs.YtbdkgmkaakoigaaDoor.I_Item Go.Proofs.YtbdkgmkaakoigaaDoor.I_RefI Go.Proofs.YtbdkgmkaakoigaaDoor.I_Eq

theorem z_field49_3 : fieldB Tryd.prog 49 3 = some 34 := by kernel_rfl
theorem z_agg47 : aggB Tryd.prog 47 = some false := by kernel_rfl
theorem q_ix_c2b32c1_34 {a0 a1 a3 : Value} {t2 : List UInt8} (h2 : t2.length = 32) : (a0 :: a1 :: (t2.map u8 ++ (a3 :: [])))[34]? = some a3 := (ix_c (o := 33) (ix_c (o := 32) (ix_b (k := 32) (o := 0) h2 rfl ix_0)))
theorem z_size51 : sizeB Tryd.prog 51 = some 4 := by kernel_rfl
theorem z_field51_0 : fieldB Tryd.prog 51 0 = some 0 := by kernel_rfl
theorem z_agg3 : aggB Tryd.prog 3 = some false := by kernel_rfl
theorem z_agg51 : aggB Tryd.prog 51 = some true := by kernel_rfl
theorem z_field51_2 : fieldB Tryd.prog 51 2 = some 2 := by kernel_rfl
theorem z_size3 : sizeB Tryd.prog 3 = some 1 := by kernel_rfl
theorem z_zero3 : zeroL Tryd.prog 3 = some ([.int .i64 0]) := by kernel_rfl
end Go.Proofs.YtbdkgmkaakoigaaDoor.I_RFor

set_option linter.unusedVariables false
set_option linter.unusedSimpArgs false
namespace Go.Proofs.YtbdkgmkaakoigaaDoor.I_RMsg
open Go.Sx Go.RowKit Go.Proofs.YtbdkgmkaakoigaaDoor.I_Block Go.Proofs.YtbdkgmkaakoigaaDoor.I_Sum Go.Proofs.YtbdkgmkaakoigaaDoor.I_Ref Go.Proofs.YtbdkgmkaakoigaaDoor.I_RSum Go.Proofs.YtbdkgmkaakoigaaDoor.I_Num Go.Proofs.YtbdkgmkaakoigaaDoor.I_Lay Go.Proofs.YtbdkgmkaakoigaaDoor.I_Leaf Go.Proofs.YtbdkgmkaakoigaaDoor.I_Item Go.Proofs.YtbdkgmkaakoigaaDoor.I_RefI Go.Proofs.YtbdkgmkaakoigaaDoor.I_Eq

theorem z_zeroN33 : zeroL Tryd.prog 33 = some ((List.replicate 32 (0 : UInt8)).map u8) := by kernel_rfl
theorem z_size5 : sizeB Tryd.prog 5 = some 1 := by kernel_rfl
theorem z_size33 : sizeB Tryd.prog 33 = some 32 := by kernel_rfl
theorem q_one_b32 {t0 : List UInt8} : (t0.map u8).all (·.oneCell') = true := (one_u8 _)
theorem q_len_b32 {t0 : List UInt8} (h0 : t0.length = 32) : (t0.map u8).length = 32 := (len_e (k := 32) h0)
theorem q_spl_b32_0_b32 {t0 : List UInt8} {s0 : List UInt8} (h0 : t0.length = 32) (g0 : s0.length = 32) : spl (t0.map u8) 0 (s0.map u8) = s0.map u8 := (spl_a (z := 32) (len_e (k := 32) h0) (len_e (k := 32) g0))
theorem z_size49 : sizeB Tryd.prog 49 = some 35 := by kernel_rfl
theorem z_field49_3 : fieldB Tryd.prog 49 3 = some 34 := by kernel_rfl
theorem z_agg47 : aggB Tryd.prog 47 = some false := by kernel_rfl
theorem z_size51 : sizeB Tryd.prog 51 = some 4 := by kernel_rfl
theorem z_agg51 : aggB Tryd.prog 51 = some true := by kernel_rfl
theorem z_zeroN51 : zeroL Tryd.prog 51 = some ((.int .i64 0 :: (.int .i64 0 :: (.int .i64 0 :: (.string ⟨#[]⟩ :: []))))) := by kernel_rfl
theorem q_one_c4 {a0 a1 a2 a3 : Value} (o0 : a0.oneCell' = true) (o1 : a1.oneCell' = true) (o2 : a2.oneCell' = true) (o3 : a3.oneCell' = true) : (a0 :: a1 :: a2 :: a3 :: []).all (·.oneCell') = true := (one_c o0 (one_c o1 (one_c o2 (one_c o3 one_n))))
theorem q_len_c4 {a0 a1 a2 a3 : Value} : (a0 :: a1 :: a2 :: a3 :: []).length = 4 := (len_c (n := 3) (len_c (n := 2) (len_c (n := 1) (len_c (n := 0) len_n))))
theorem q_spl_c4_0_c4 {a0 a1 a2 a3 : Value} {b0 b1 b2 b3 : Value} : spl (a0 :: a1 :: a2 :: a3 :: []) 0 (b0 :: b1 :: b2 :: b3 :: []) = b0 :: b1 :: b2 :: b3 :: [] := (spl_a (z := 4) (len_c (n := 3) (len_c (n := 2) (len_c (n := 1) (len_c (n := 0) len_n)))) (len_c (n := 3) (len_c (n := 2) (len_c (n := 1) (len_c (n := 0) len_n)))))
theorem z_field51_0 : fieldB Tryd.prog 51 0 = some 0 := by kernel_rfl
theorem z_agg3 : aggB Tryd.prog 3 = some false := by kernel_rfl
theorem q_ix_c4_0 {a0 a1 a2 a3 : Value} : (a0 :: a1 :: a2 :: a3 :: [])[0]? = some a0 := ix_0
theorem q_ld_c4_0_4 {a0 a1 a2 a3 : Value} : ((a0 :: a1 :: a2 :: a3 :: []).drop 0).take 4 = a0 :: a1 :: a2 :: a3 :: [] := (ld_a (len_c (n := 3) (len_c (n := 2) (len_c (n := 1) (len_c (n := 0) len_n)))))
theorem z_field51_3 : fieldB Tryd.prog 51 3 = some 3 := by kernel_rfl
theorem z_agg9 : aggB Tryd.prog 9 = some false := by kernel_rfl
theorem q_ix_c4_3 {a0 a1 a2 a3 : Value} : (a0 :: a1 :: a2 :: a3 :: [])[3]? = some a3 := (ix_c (o := 2) (ix_c (o := 1) (ix_c (o := 0) ix_0)))
theorem z_field51_1 : fieldB Tryd.prog 51 1 = some 1 := by kernel_rfl
theorem q_ix_c4_1 {a0 a1 a2 a3 : Value} : (a0 :: a1 :: a2 :: a3 :: [])[1]? = some a1 := (ix_c (o := 0) ix_0)
theorem z_size9 : sizeB Tryd.prog 9 = some 1 := by kernel_rfl
theorem z_zero9 : zeroL Tryd.prog 9 = some ([.string ⟨#[]⟩]) := by kernel_rfl
theorem z_agg33 : aggB Tryd.prog 33 = some true := by kernel_rfl
theorem q_ld_b32_0_32 {t0 : List UInt8} (h0 : t0.length = 32) : ((t0.map u8).drop 0).take 32 = t0.map u8 := (ld_a (len_e (k := 32) h0))
theorem z_field49_0 : fieldB Tryd.prog 49 0 = some 0 := by kernel_rfl
theorem z_zeroN38 : zeroL Tryd.prog 38 = some ((.int .i64 0 :: (.string ⟨#[]⟩ :: (.int .i64 0 :: (List.replicate 32 (0 : UInt8)).map u8)))) := by kernel_rfl
theorem z_places38 : placesB Tryd.prog 38 = some [(0, 1), (1, 1), (2, 1), (3, 32)] := by kernel_rfl
theorem q_len_c3b32 {a0 a1 a2 : Value} {t3 : List UInt8} (h3 : t3.length = 32) : (a0 :: a1 :: a2 :: t3.map u8).length = 35 := (len_c (n := 34) (len_c (n := 33) (len_c (n := 32) (len_e (k := 32) h3))))
theorem q_spl_c3b32_0_c1 {a0 a1 a2 : Value} {t3 : List UInt8} {b0 : Value} : spl (a0 :: a1 :: a2 :: t3.map u8) 0 (b0 :: []) = b0 :: a1 :: a2 :: t3.map u8 := spl_0
theorem q_spl_c3b32_1_c1 {a0 a1 a2 : Value} {t3 : List UInt8} {b0 : Value} : spl (a0 :: a1 :: a2 :: t3.map u8) 1 (b0 :: []) = a0 :: b0 :: a2 :: t3.map u8 := (spl_c (o := 0) spl_0)
theorem q_spl_c3b32_2_c1 {a0 a1 a2 : Value} {t3 : List UInt8} {b0 : Value} : spl (a0 :: a1 :: a2 :: t3.map u8) 2 (b0 :: []) = a0 :: a1 :: b0 :: t3.map u8 := (spl_c (o := 1) (spl_c (o := 0) spl_0))
theorem q_spl_c3b32_3_b32 {a0 a1 a2 : Value} {t3 : List UInt8} {s0 : List UInt8} (h3 : t3.length = 32) (g0 : s0.length = 32) : spl (a0 :: a1 :: a2 :: t3.map u8) 3 (s0.map u8) = a0 :: a1 :: a2 :: s0.map u8 := (spl_c (o := 2) (spl_c (o := 1) (spl_c (o := 0) (spl_a (z := 32) (len_e (k := 32) h3) (len_e (k := 32) g0)))))
theorem z_size38 : sizeB Tryd.prog 38 = some 35 := by kernel_rfl
theorem z_zero38 : zeroL Tryd.prog 38 = some ([.int .i64 0, .string ⟨#[]⟩, .int .i64 0, .int .u8 0, .int .u8 0, .int .u8 0, .int .u8 0, .int .u8 0, .int .u8 0, .int .u8 0, .int .u8 0, .int .u8 0, .int .u8 0, .int .u8 0, .int .u8 0, .int .u8 0, .int .u8 0, .int .u8 0, .int .u8 0, .int .u8 0, .int .u8 0, .int .u8 0, .int .u8 0, .int .u8 0, .int .u8 0, .int .u8 0, .int .u8 0, .int .u8 0, .int .u8 0, .int .u8 0, .int .u8 0, .int .u8 0, .int .u8 0, .int .u8 0, .int .u8 0]) := by kernel_rfl
theorem z_slice22 : sliceB Tryd.prog 22 = some (38, 35, 64) := by kernel_rfl
theorem z_notint22 : notIntB Tryd.prog 22 = true := by kernel_rfl

end Go.Proofs.YtbdkgmkaakoigaaDoor.I_RMsg

set_option linter.unusedVariables false
set_option linter.unusedSimpArgs false
namespace Go.Proofs.YtbdkgmkaakoigaaDoor.I_Same
open Go.Sx Go.RowKit Go.Proofs.YtbdkgmkaakoigaaDoor.I_Block Go.Proofs.YtbdkgmkaakoigaaDoor.I_Sum Go.Proofs.YtbdkgmkaakoigaaDoor.I_Ref Go.Proofs.YtbdkgmkaakoigaaDoor.I_RSum Go.Proofs.YtbdkgmkaakoigaaDoor.I_Num Go.Proofs.YtbdkgmkaakoigaaDoor.I_Lay Go.Proofs.YtbdkgmkaakoigaaDoor.I_Leaf Go.Proofs.YtbdkgmkaakoigaaDoor.I_Item Go.Proofs.YtbdkgmkaakoigaaDoor.I_RefI Go.Proofs.YtbdkgmkaakoigaaDoor.I_Eq

theorem z_size38 : sizeB Tryd.prog 38 = some 35 := by kernel_rfl
end Go.Proofs.YtbdkgmkaakoigaaDoor.I_Same

set_option linter.unusedVariables false
set_option linter.unusedSimpArgs false
namespace Go.Proofs.YtbdkgmkaakoigaaDoor.I_Nums
open Go.Sx Go.RowKit Go.Proofs.YtbdkgmkaakoigaaDoor.I_Block Go.Proofs.YtbdkgmkaakoigaaDoor.I_Sum Go.Proofs.YtbdkgmkaakoigaaDoor.I_Ref Go.Proofs.YtbdkgmkaakoigaaDoor.I_RSum Go.Proofs.YtbdkgmkaakoigaaDoor.I_Num Go.Proofs.YtbdkgmkaakoigaaDoor.I_Lay Go.Proofs.YtbdkgmkaakoigaaDoor.I_Leaf Go.Proofs.YtbdkgmkaakoigaaDoor.I_Item Go.Proofs.YtbdkgmkaakoigaaDoor.I_RefI Go.Proofs.YtbdkgmkaakoigaaDoor.I_Eq

theorem z_size3 : sizeB Tryd.prog 3 = some 1 := by kernel_rfl
theorem z_agg3 : aggB Tryd.prog 3 = some false := by kernel_rfl

end Go.Proofs.YtbdkgmkaakoigaaDoor.I_Nums

set_option linter.unusedVariables false
set_option linter.unusedSimpArgs false
namespace Go.Proofs.YtbdkgmkaakoigaaDoor.I_L1
open Go.Sx Go.RowKit Go.Proofs.YtbdkgmkaakoigaaDoor.I_Block Go.Proofs.YtbdkgmkaakoigaaDoor.I_Sum Go.Proofs.YtbdkgmkaakoigaaDoor.I_Ref Go.Proofs.YtbdkgmkaakoigaaDoor.I_RSum Go.Proofs.YtbdkgmkaakoigaaDoor.I_Num Go.Proofs.YtbdkgmkaakoigaaDoor.I_Lay Go.Proofs.YtbdkgmkaakoigaaDoor.I_Leaf Go.Proofs.YtbdkgmkaakoigaaDoor.I_Item Go.Proofs.YtbdkgmkaakoigaaDoor.I_RefI Go.Proofs.YtbdkgmkaakoigaaDoor.I_Eq Go.Proofs.YtbdkgmkaakoigaaDoor.I_Put Go.Proofs.YtbdkgmkaakoigaaDoor.I_Msg Go.Proofs.YtbdkgmkaakoigaaDoor.I_Reach Go.Proofs.YtbdkgmkaakoigaaDoor.I_Aw Go.Proofs.YtbdkgmkaakoigaaDoor.I_For Go.Proofs.YtbdkgmkaakoigaaDoor.I_RFor Go.Proofs.YtbdkgmkaakoigaaDoor.I_RMsg Go.Proofs.YtbdkgmkaakoigaaDoor.I_Same Go.Proofs.YtbdkgmkaakoigaaDoor.I_Nums

theorem z_call8 : callB Tryd.prog 8 = true := by kernel_rfl
theorem z_field24_0 : fieldB Tryd.prog 24 0 = some 0 := by kernel_rfl
theorem z_agg3 : aggB Tryd.prog 3 = some false := by kernel_rfl
theorem q_ix_c3_0 {a0 a1 a2 : Value} : (a0 :: a1 :: a2 :: [])[0]? = some a0 := ix_0
theorem z_field24_1 : fieldB Tryd.prog 24 1 = some 1 := by kernel_rfl
theorem q_ix_c3_1 {a0 a1 a2 : Value} : (a0 :: a1 :: a2 :: [])[1]? = some a1 := (ix_c (o := 0) ix_0)
theorem z_field24_2 : fieldB Tryd.prog 24 2 = some 2 := by kernel_rfl
theorem q_ix_c3_2 {a0 a1 a2 : Value} : (a0 :: a1 :: a2 :: [])[2]? = some a2 := (ix_c (o := 1) (ix_c (o := 0) ix_0))
theorem z_call9 : callB Tryd.prog 9 = true := by kernel_rfl
theorem z_call10 : callB Tryd.prog 10 = true := by kernel_rfl

set_option maxRecDepth 100000 in
set_option maxHeartbeats 1000000 in
theorem inboxReach (l : List Inbox.Entry) (hl : ∀ e ∈ l, e.acc.length = 32) (A : Option Addr) (c : Nat) (hm2 : l.length ≤ 9223372036854775807) (q : Inbox.Q) (wq : Note.I64 q.n ∧ Note.I64 q.t ∧ Note.I64 q.wt) {w : World} (hR : Rd w A (Inbox.ec l)) (hG : Glob 0 Sha.K w) : Calls Tryd.prog 3 #[.slice A l.length c, .agg [i64 q.n, i64 q.t, i64 q.wt].toArray] w (Gives (.bool true) [] w) := by
  have lz32 : (List.replicate 32 (0 : UInt8)).length = 32 := List.length_replicate
  refine enterL (args := [.slice A l.length c, .agg [i64 q.n, i64 q.t, i64 q.wt].toArray]) Tryd.func3 rfl rfl (l := []) (Sep.refl _) ?_
  intro a0 H0
  refine wp_seq ?_
  refine reg ?_
  refine st_box rfl rfl (agg_cells _) rfl rfl rfl H0 ?_
  clear H0; intro b1 a1 wx1 H1
  refine plain (y_assign rfl rfl) rfl rfl rfl H1 ?_
  clear H1; intro a2 H2
  refine fin ?_
  refine then_n ?_
  refine wp_seq ?_
  refine qreg (by kernel_rfl) (by kernel_rfl) H2 ?_
  have F3 := H2.fr
  clear H2
  refine qcallg rfl z_call8 rfl rfl rfl rfl F3 (fun w hs => (iawake (hG.frm hs.frm (by simp)))) ?_
  clear F3; intro a4 H4
  refine qplain (y_move rfl rfl) rfl rfl rfl H4 ?_
  clear H4; intro a5 H5
  refine qplain (y_move rfl rfl) rfl rfl rfl H5 ?_
  clear H5; intro a6 H6
  refine qplain (y_fieldB rfl z_field24_0 rfl (by first | (simp only [Nat.zero_add, Nat.add_zero, Nat.reduceAdd]; rfl) | rfl)) rfl rfl rfl H6 ?_
  clear H6; intro a7 H7
  refine qplain (y_loadB rfl z_agg3 rfl (by repeat (first | exact Mh | apply Mt)) q_ix_c3_0) rfl rfl rfl H7 ?_
  clear H7; intro a8 H8
  refine qplain (y_fieldB rfl z_field24_1 rfl (by first | (simp only [Nat.zero_add, Nat.add_zero, Nat.reduceAdd]; rfl) | rfl)) rfl rfl rfl H8 ?_
  clear H8; intro a9 H9
  refine qplain (y_loadB rfl z_agg3 rfl (by repeat (first | exact Mh | apply Mt)) q_ix_c3_1) rfl rfl rfl H9 ?_
  clear H9; intro a10 H10
  refine qplain (y_fieldB rfl z_field24_2 rfl (by first | (simp only [Nat.zero_add, Nat.add_zero, Nat.reduceAdd]; rfl) | rfl)) rfl rfl rfl H10 ?_
  clear H10; intro a11 H11
  refine qplain (y_loadB rfl z_agg3 rfl (by repeat (first | exact Mh | apply Mt)) q_ix_c3_2) rfl rfl rfl H11 ?_
  clear H11; intro a12 H12
  refine qcallg rfl z_call9 rfl rfl rfl rfl H12 (fun w hs => (ireach l hl A l.length c rfl hm2 q.n q.t q.wt wq.1 wq.2.1 wq.2.2 (Rd.frm hR hs.frm (by simp)))) ?_
  clear H12; intro a13 H13
  refine qplain (y_move rfl rfl) rfl rfl rfl H13 ?_
  clear H13; intro a14 H14
  refine qplain (y_fieldB rfl z_field24_0 rfl (by first | (simp only [Nat.zero_add, Nat.add_zero, Nat.reduceAdd]; rfl) | rfl)) rfl rfl rfl H14 ?_
  clear H14; intro a15 H15
  refine qplain (y_loadB rfl z_agg3 rfl (by repeat (first | exact Mh | apply Mt)) q_ix_c3_0) rfl rfl rfl H15 ?_
  clear H15; intro a16 H16
  refine qplain (y_fieldB rfl z_field24_1 rfl (by first | (simp only [Nat.zero_add, Nat.add_zero, Nat.reduceAdd]; rfl) | rfl)) rfl rfl rfl H16 ?_
  clear H16; intro a17 H17
  refine qplain (y_loadB rfl z_agg3 rfl (by repeat (first | exact Mh | apply Mt)) q_ix_c3_1) rfl rfl rfl H17 ?_
  clear H17; intro a18 H18
  refine qplain (y_fieldB rfl z_field24_2 rfl (by first | (simp only [Nat.zero_add, Nat.add_zero, Nat.reduceAdd]; rfl) | rfl)) rfl rfl rfl H18 ?_
  clear H18; intro a19 H19
  refine qplain (y_loadB rfl z_agg3 rfl (by repeat (first | exact Mh | apply Mt)) q_ix_c3_2) rfl rfl rfl H19 ?_
  clear H19; intro a20 H20
  refine qcallg rfl z_call10 rfl rfl rfl rfl H20 (fun w hs => (rreach l hl A l.length c rfl hm2 q.n q.t q.wt wq.1 wq.2.1 wq.2.2 (Rd.frm hR hs.frm (by simp)))) ?_
  clear H20; intro a21 H21
  refine qplain (y_eql rfl rfl rfl) rfl rfl rfl H21 ?_
  clear H21; intro a22 H22
  refine qplain (y_pick_t rfl rfl rfl) rfl rfl rfl H22 ?_
  clear H22; intro a23 H23
  refine qplain (y_assign rfl rfl) rfl rfl rfl H23 ?_
  clear H23; intro a24 H24
  refine qfin H24 ?_
  clear H24; intro wx25 H25
  refine then_n ?_
  refine wp_ret ?_
  -- return 1
  refine ret1 rfl H25 rfl ?_
  exact ⟨_, [], rfl, ⟨congrArg Value.bool (decide_eq_true rfl), rfl⟩, H25.sep.sub (List.nil_sublist _)⟩

end Go.Proofs.YtbdkgmkaakoigaaDoor.I_L1

set_option linter.unusedVariables false
set_option linter.unusedSimpArgs false
namespace Go.Proofs.YtbdkgmkaakoigaaDoor.I_Rd
open Go.Sx Go.RowKit

theorem rd_Entry {H : Type} {enc : TypeId × Value → H} {W : World} {sp : Nat → Bool} {held : Bool} {cs : List Value} (h : Trw enc Tryd.prog W sp held 38 cs) : ∃ (x : Inbox.Entry), cs = Inbox.Entry.cells x ∧ Inbox.Entry.Wf x := by
  have hp := h.pieces Tryd.underlying38 [1, 1, 1, 32] (by kernel_rfl)
  obtain ⟨v0, e0, w0⟩ := (h.field Tryd.underlying38 0 rfl (o := 0) rfl (T := 3) rfl (k := 1) (by kernel_rfl)).i64 Tryd.underlying3
  obtain ⟨v1, e1, w1⟩ := (h.field Tryd.underlying38 1 rfl (o := 1) rfl (T := 9) rfl (k := 1) (by kernel_rfl)).str Tryd.underlying9
  obtain ⟨v2, e2, w2⟩ := (h.field Tryd.underlying38 2 rfl (o := 2) rfl (T := 3) rfl (k := 1) (by kernel_rfl)).i64 Tryd.underlying3
  obtain ⟨v3, e3, w3⟩ := (h.field Tryd.underlying38 3 rfl (o := 3) rfl (T := 33) rfl (k := 32) (by kernel_rfl)).bytes Tryd.underlying33 Tryd.underlying5 (by kernel_rfl) (by kernel_rfl)
  refine ⟨⟨v0, v1, v2, v3⟩, ?_, w0, w1, w2, w3⟩
  rw [hp]
  simp only [Sx.pieces, Nat.zero_add, Nat.reduceAdd, e0, e1, e2, e3]
  first | rfl | simp [Inbox.Entry.cells]
theorem rd_Q {H : Type} {enc : TypeId × Value → H} {W : World} {sp : Nat → Bool} {held : Bool} {cs : List Value} (h : Trw enc Tryd.prog W sp held 24 cs) : ∃ (x : Inbox.Q), cs = Inbox.Q.cells x ∧ (Note.I64 x.n ∧ Note.I64 x.t ∧ Note.I64 x.wt) := by
  have hp := h.pieces Tryd.underlying24 [1, 1, 1] (by kernel_rfl)
  obtain ⟨v0, e0, w0⟩ := (h.field Tryd.underlying24 0 rfl (o := 0) rfl (T := 3) rfl (k := 1) (by kernel_rfl)).i64 Tryd.underlying3
  obtain ⟨v1, e1, w1⟩ := (h.field Tryd.underlying24 1 rfl (o := 1) rfl (T := 3) rfl (k := 1) (by kernel_rfl)).i64 Tryd.underlying3
  obtain ⟨v2, e2, w2⟩ := (h.field Tryd.underlying24 2 rfl (o := 2) rfl (T := 3) rfl (k := 1) (by kernel_rfl)).i64 Tryd.underlying3
  refine ⟨⟨v0, v1, v2⟩, ?_, w0, w1, w2⟩
  rw [hp]
  simp only [Sx.pieces, Nat.zero_add, Nat.reduceAdd, e0, e1, e2]
  first | rfl | simp [Inbox.Q.cells]

end Go.Proofs.YtbdkgmkaakoigaaDoor.I_Rd
