/- Part of a proof about given Go functions: contracts of functions, or plain laws. -/
import Derived.Test.YtaeahloenahelaaDoorAuctionV
import Derived.Test.YtaeahloenahelaaDoorSxI
import Derived.Test.YtaeahloenahelaaDoorSxN
import Derived.Test.YtaeahloenahelaaDoorSxK
import Derived.Test.YtaeahloenahelaaDoorSxM
import Derived.Test.YtaeahloenahelaaDoorProg
import Derived.Test.YtaeahloenahelaaDoorW1
import Derived.Test.YtaeahloenahelaaDoorW2
import Derived.Test.YtaeahloenahelaaDoorSxTx
set_option linter.unusedVariables false
set_option linter.unusedSimpArgs false
namespace Go.Proofs.YtaeahloenahelaaDoor.A_L3
open Go.Sx Go.RowKit Go.Proofs.YtaeahloenahelaaDoor.A_Block Go.Proofs.YtaeahloenahelaaDoor.A_Sum Go.Proofs.YtaeahloenahelaaDoor.A_Ref Go.Proofs.YtaeahloenahelaaDoor.A_RSum Go.Proofs.YtaeahloenahelaaDoor.A_Leaf Go.Proofs.YtaeahloenahelaaDoor.A_Num Go.Proofs.YtaeahloenahelaaDoor.A_Key Go.Proofs.YtaeahloenahelaaDoor.A_Ref Go.Proofs.YtaeahloenahelaaDoor.A_RSum Go.Proofs.YtaeahloenahelaaDoor.A_Tag Go.Proofs.YtaeahloenahelaaDoor.A_Lay Go.Proofs.YtaeahloenahelaaDoor.A_Eq Go.Proofs.YtaeahloenahelaaDoor.A_Ref0 Go.Proofs.YtaeahloenahelaaDoor.A_Sign Go.Proofs.YtaeahloenahelaaDoor.A_RefB Go.Proofs.YtaeahloenahelaaDoor.A_Win Go.Proofs.YtaeahloenahelaaDoor.A_RWin Go.Proofs.YtaeahloenahelaaDoor.A_Law Go.Proofs.YtaeahloenahelaaDoor.A_EqW Go.Proofs.YtaeahloenahelaaDoor.A_RCnt

theorem z_field25_0 : fieldB Tryd.prog 25 0 = some 0 := by kernel_rfl
theorem z_agg22 : aggB Tryd.prog 22 = some false := by kernel_rfl
theorem q_ix_c4_0 {a0 a1 a2 a3 : Value} : (a0 :: a1 :: a2 :: a3 :: [])[0]? = some a0 := ix_0
theorem z_call12 : callB Tryd.prog 12 = true := by kernel_rfl
theorem z_size22 : sizeB Tryd.prog 22 = some 1 := by kernel_rfl
theorem q_len_c4 {a0 a1 a2 a3 : Value} : (a0 :: a1 :: a2 :: a3 :: []).length = 4 := (len_c (n := 3) (len_c (n := 2) (len_c (n := 1) (len_c (n := 0) len_n))))
theorem q_set_c4_0 {a0 a1 a2 a3 : Value} {v : Value} : (a0 :: a1 :: a2 :: a3 :: []).set 0 v = v :: a1 :: a2 :: a3 :: [] := set_0
theorem z_field25_1 : fieldB Tryd.prog 25 1 = some 1 := by kernel_rfl
theorem z_agg23 : aggB Tryd.prog 23 = some false := by kernel_rfl
theorem q_ix_c4_1 {a0 a1 a2 a3 : Value} : (a0 :: a1 :: a2 :: a3 :: [])[1]? = some a1 := (ix_c (o := 0) ix_0)
theorem z_field25_2 : fieldB Tryd.prog 25 2 = some 2 := by kernel_rfl
theorem z_agg3 : aggB Tryd.prog 3 = some false := by kernel_rfl
theorem q_ix_c4_2 {a0 a1 a2 a3 : Value} : (a0 :: a1 :: a2 :: a3 :: [])[2]? = some a2 := (ix_c (o := 1) (ix_c (o := 0) ix_0))
theorem z_field25_3 : fieldB Tryd.prog 25 3 = some 3 := by kernel_rfl
theorem q_ix_c4_3 {a0 a1 a2 a3 : Value} : (a0 :: a1 :: a2 :: a3 :: [])[3]? = some a3 := (ix_c (o := 2) (ix_c (o := 1) (ix_c (o := 0) ix_0)))
theorem z_call13 : callB Tryd.prog 13 = true := by kernel_rfl
theorem z_zeroN32 : zeroL Tryd.prog 32 = some ((.int .i64 0 :: (.int .i64 0 :: (.int .i64 0 :: (.int .i64 0 :: ((List.replicate 32 (0 : UInt8)).map u8 ++ (.int .i64 0 :: []))))))) := by kernel_rfl
theorem z_size32 : sizeB Tryd.prog 32 = some 37 := by kernel_rfl
theorem q_one_c4b32c1 {a0 a1 a2 a3 a5 : Value} {t4 : List UInt8} (o0 : a0.oneCell' = true) (o1 : a1.oneCell' = true) (o2 : a2.oneCell' = true) (o3 : a3.oneCell' = true) (o5 : a5.oneCell' = true) : (a0 :: a1 :: a2 :: a3 :: (t4.map u8 ++ (a5 :: []))).all (·.oneCell') = true := (one_c o0 (one_c o1 (one_c o2 (one_c o3 (one_b (one_c o5 one_n))))))
theorem q_len_c4b32c1 {a0 a1 a2 a3 a5 : Value} {t4 : List UInt8} (h4 : t4.length = 32) : (a0 :: a1 :: a2 :: a3 :: (t4.map u8 ++ (a5 :: []))).length = 37 := (len_c (n := 36) (len_c (n := 35) (len_c (n := 34) (len_c (n := 33) (len_b (k := 32) (n := 1) h4 (len_c (n := 0) len_n))))))
theorem q_spl_c4b32c1_0_c4b32c1 {a0 a1 a2 a3 a5 : Value} {t4 : List UInt8} {b0 b1 b2 b3 b5 : Value} {s4 : List UInt8} (h4 : t4.length = 32) (g4 : s4.length = 32) : spl (a0 :: a1 :: a2 :: a3 :: (t4.map u8 ++ (a5 :: []))) 0 (b0 :: b1 :: b2 :: b3 :: (s4.map u8 ++ (b5 :: []))) = b0 :: b1 :: b2 :: b3 :: (s4.map u8 ++ (b5 :: [])) := (spl_a (z := 37) (len_c (n := 36) (len_c (n := 35) (len_c (n := 34) (len_c (n := 33) (len_b (k := 32) (n := 1) h4 (len_c (n := 0) len_n)))))) (len_c (n := 36) (len_c (n := 35) (len_c (n := 34) (len_c (n := 33) (len_b (k := 32) (n := 1) g4 (len_c (n := 0) len_n)))))))
theorem z_call15 : callB Tryd.prog 15 = true := by kernel_rfl
theorem z_field30_2 : fieldB Tryd.prog 30 2 = some 2 := by kernel_rfl
theorem q_ix_c4b32_2 {a0 a1 a2 a3 : Value} {t4 : List UInt8} : (a0 :: a1 :: a2 :: a3 :: t4.map u8)[2]? = some a2 := (ix_c (o := 1) (ix_c (o := 0) ix_0))
theorem z_field32_0 : fieldB Tryd.prog 32 0 = some 0 := by kernel_rfl
theorem q_ix_c4b32c1_2 {a0 a1 a2 a3 a5 : Value} {t4 : List UInt8} : (a0 :: a1 :: a2 :: a3 :: (t4.map u8 ++ (a5 :: [])))[2]? = some a2 := (ix_c (o := 1) (ix_c (o := 0) ix_0))
theorem z_size30 : sizeB Tryd.prog 30 = some 36 := by kernel_rfl
theorem z_field30_1 : fieldB Tryd.prog 30 1 = some 1 := by kernel_rfl
theorem q_ix_c4b32_1 {a0 a1 a2 a3 : Value} {t4 : List UInt8} : (a0 :: a1 :: a2 :: a3 :: t4.map u8)[1]? = some a1 := (ix_c (o := 0) ix_0)
theorem z_agg30 : aggB Tryd.prog 30 = some true := by kernel_rfl
theorem q_ld_c4b32_0_36 {a0 a1 a2 a3 : Value} {t4 : List UInt8} (h4 : t4.length = 32) : ((a0 :: a1 :: a2 :: a3 :: t4.map u8).drop 0).take 36 = a0 :: a1 :: a2 :: a3 :: t4.map u8 := (ld_a (len_c (n := 35) (len_c (n := 34) (len_c (n := 33) (len_c (n := 32) (len_e (k := 32) h4))))))
theorem q_len_c4b32 {a0 a1 a2 a3 : Value} {t4 : List UInt8} (h4 : t4.length = 32) : (a0 :: a1 :: a2 :: a3 :: t4.map u8).length = 36 := (len_c (n := 35) (len_c (n := 34) (len_c (n := 33) (len_c (n := 32) (len_e (k := 32) h4)))))
theorem z_zero30 : zeroL Tryd.prog 30 = some ([.int .i64 0, .int .i64 0, .int .i64 0, .int .i64 0, .int .u8 0, .int .u8 0, .int .u8 0, .int .u8 0, .int .u8 0, .int .u8 0, .int .u8 0, .int .u8 0, .int .u8 0, .int .u8 0, .int .u8 0, .int .u8 0, .int .u8 0, .int .u8 0, .int .u8 0, .int .u8 0, .int .u8 0, .int .u8 0, .int .u8 0, .int .u8 0, .int .u8 0, .int .u8 0, .int .u8 0, .int .u8 0, .int .u8 0, .int .u8 0, .int .u8 0, .int .u8 0, .int .u8 0, .int .u8 0, .int .u8 0, .int .u8 0]) := by kernel_rfl
theorem z_slice22 : sliceB Tryd.prog 22 = some (30, 36, 64) := by kernel_rfl
theorem z_notint22 : notIntB Tryd.prog 22 = true := by kernel_rfl
theorem q_ld_c4b32c1_0_36 {a0 a1 a2 a3 a5 : Value} {t4 : List UInt8} (h4 : t4.length = 32) : ((a0 :: a1 :: a2 :: a3 :: (t4.map u8 ++ (a5 :: []))).drop 0).take 36 = a0 :: a1 :: a2 :: a3 :: t4.map u8 := (ld_s (ld_s (ld_s (ld_s (ld_h h4)))))
theorem z_field32_1 : fieldB Tryd.prog 32 1 = some 36 := by kernel_rfl
theorem q_ix_c4b32c1_36 {a0 a1 a2 a3 a5 : Value} {t4 : List UInt8} (h4 : t4.length = 32) : (a0 :: a1 :: a2 :: a3 :: (t4.map u8 ++ (a5 :: [])))[36]? = some a5 := (ix_c (o := 35) (ix_c (o := 34) (ix_c (o := 33) (ix_c (o := 32) (ix_b (k := 32) (o := 0) h4 rfl ix_0)))))

set_option maxRecDepth 100000 in
set_option maxHeartbeats 2000000 in
theorem auctionLosers (l : List Note.Bid) (fs : List Int) (r fl : Int) (A B : Option Addr) (c e : Nat) (hc : l.length ≤ c) (hfl : fs.length ≤ 9223372036854775807) (x : Note.Bid) (wx : Note.Bid.Wf x) {w : World} (hw0 : ∀ x ∈ l, Note.Bid.Wf x) (hA0 : Rd w A (Auction.bdc l)) (hB : Rd w B (fs.map i64)) (hG : Glob 0 Sha.K w) : Calls Tryd.prog 5 #[.agg [Value.slice A l.length c, Value.slice B fs.length e, i64 r, i64 fl].toArray, .agg (Note.Bid.cells x).toArray] w (Gives (.bool true) [] w) := by
  obtain ⟨Y, hY⟩ : ∃ Y, Y = l.take 80 := ⟨_, rfl⟩
  have hw : ∀ x ∈ Y, Note.Bid.Wf x := fun x hx => hw0 x (by rw [hY] at hx; exact List.mem_of_mem_take hx)
  have hA : Rd w A (Auction.bdc Y) := by (rw [hY, Auction.bdc_pre hw0]; exact hA0.take _)
  have hl : Y.length ≤ 80 := by (rw [hY, List.length_take]; omega)
  have hfew : ∀ w, Calls Tryd.prog 12 #[.slice A l.length c] w (Gives (.slice A Y.length c) [] w) := fun w => by have h := lfew l A c hc w; rw [← hY] at h; exact h
  obtain ⟨W, hW⟩ : ∃ W, W = Auction.win Y fs r fl := ⟨_, rfl⟩
  have hx : W.1.bid.tag.length = 32 := by rw [hW]; exact Auction.win_tag hw fs r fl
  have hxt := wx.tag
  obtain ⟨V, hV⟩ : ∃ V, V = Auction.win (Y ++ [x]) fs r fl := ⟨_, rfl⟩
  have hwy : ∀ z ∈ Y ++ [x], Note.Bid.Wf z := fun z hz => (List.mem_append.1 hz).elim (hw z) (fun h => by rw [List.mem_singleton.1 h]; exact wx)
  have hvt : V.1.bid.tag.length = 32 := by rw [hV]; exact Auction.win_tag hwy fs r fl
  have hwin2 : ∀ (A : Option Addr) (m c : Nat) {w : World}, m = (Y ++ [x]).length → Rd w A (Auction.bdc (Y ++ [x])) → Rd w B (fs.map i64) → Glob 0 Sha.K w → Calls Tryd.prog 13 #[.slice A m c, .slice B fs.length e, .int .i64 r, .int .i64 fl] w (Gives (.tuple #[.agg (Auction.Win.cells V.1).toArray, .bool V.2]) [] w) := fun A m c w hm hA hB hG => by (have h := awin (Y ++ [x]) fs r fl A B m _ c e hm rfl (by rw [List.length_append]; simp; omega) hfl hwy hA hB hG; rw [← hV] at h; exact h)
  have lz32 : (List.replicate 32 (0 : UInt8)).length = 32 := List.length_replicate
  have lz0 := wx.tag
  refine enterL (args := [.agg [Value.slice A l.length c, Value.slice B fs.length e, i64 r, i64 fl].toArray, .agg (Note.Bid.cells x).toArray]) Tryd.func5 rfl rfl (l := []) (Sep.refl _) ?_
  intro a0 H0
  refine wp_seq ?_
  refine reg ?_
  refine st_box rfl rfl (agg_cells _) rfl rfl rfl H0 ?_
  clear H0; intro b1 a1 wx1 H1
  refine st_box rfl rfl (agg_cells _) rfl rfl rfl H1 ?_
  clear H1; intro b2 a2 wx2 H2
  refine plain (y_assign rfl rfl) rfl rfl rfl H2 ?_
  clear H2; intro a3 H3
  refine fin ?_
  refine then_n ?_
  refine wp_seq ?_
  refine reg ?_
  refine plain (y_fieldB rfl z_field25_0 rfl (by first | (simp only [Nat.zero_add, Nat.add_zero, Nat.reduceAdd]; rfl) | rfl)) rfl rfl rfl H3 ?_
  clear H3; intro a4 H4
  refine plain (y_loadB rfl z_agg22 rfl (by repeat (first | exact Mh | apply Mt)) q_ix_c4_0) rfl rfl rfl H4 ?_
  clear H4; intro a5 H5
  refine st_callg rfl z_call12 rfl rfl rfl rfl H5 (hfew _) ?_
  clear H5; intro a6 wx6 H6
  refine plain (y_fieldB rfl z_field25_0 rfl (by first | (simp only [Nat.zero_add, Nat.add_zero, Nat.reduceAdd]; rfl) | rfl)) rfl rfl rfl H6 ?_
  clear H6; intro a7 H7
  refine st_store1N rfl z_size22 rfl rfl rfl (by repeat (first | exact Uh | apply Ut)) q_len_c4 q_set_c4_0 (by decide) rfl rfl H7 ?_
  clear H7; intro wx8 H8
  refine fin ?_
  refine then_n ?_
  refine wp_seq ?_
  refine reg ?_
  refine plain (y_fieldB rfl z_field25_0 rfl (by first | (simp only [Nat.zero_add, Nat.add_zero, Nat.reduceAdd]; rfl) | rfl)) rfl rfl rfl H8 ?_
  clear H8; intro a9 H9
  refine plain (y_loadB rfl z_agg22 rfl (by repeat (first | exact Mh | apply Mt)) q_ix_c4_0) rfl rfl rfl H9 ?_
  clear H9; intro a10 H10
  refine plain (y_fieldB rfl z_field25_1 rfl (by first | (simp only [Nat.zero_add, Nat.add_zero, Nat.reduceAdd]; rfl) | rfl)) rfl rfl rfl H10 ?_
  clear H10; intro a11 H11
  refine plain (y_loadB rfl z_agg23 rfl (by repeat (first | exact Mh | apply Mt)) q_ix_c4_1) rfl rfl rfl H11 ?_
  clear H11; intro a12 H12
  refine plain (y_fieldB rfl z_field25_2 rfl (by first | (simp only [Nat.zero_add, Nat.add_zero, Nat.reduceAdd]; rfl) | rfl)) rfl rfl rfl H12 ?_
  clear H12; intro a13 H13
  refine plain (y_loadB rfl z_agg3 rfl (by repeat (first | exact Mh | apply Mt)) q_ix_c4_2) rfl rfl rfl H13 ?_
  clear H13; intro a14 H14
  refine plain (y_fieldB rfl z_field25_3 rfl (by first | (simp only [Nat.zero_add, Nat.add_zero, Nat.reduceAdd]; rfl) | rfl)) rfl rfl rfl H14 ?_
  clear H14; intro a15 H15
  refine plain (y_loadB rfl z_agg3 rfl (by repeat (first | exact Mh | apply Mt)) q_ix_c4_3) rfl rfl rfl H15 ?_
  clear H15; intro a16 H16
  refine st_callg rfl z_call13 rfl rfl rfl rfl H16 (by have h := awin Y fs r fl A B _ _ c e rfl rfl (by omega) hfl hw (Rd.frm hA H16.sep.frm (by simp)) (Rd.frm hB H16.sep.frm (by simp)) (hG.frm H16.sep.frm (by simp)); rw [← hW] at h; exact h) ?_
  clear H16; intro a17 wx17 H17
  refine plain (y_move rfl rfl) rfl rfl rfl H17 ?_
  clear H17; intro a18 H18
  refine plain (y_extract rfl rfl rfl) rfl rfl rfl H18 ?_
  clear H18; intro a19 H19
  refine plain (y_extract rfl rfl rfl) rfl rfl rfl H19 ?_
  clear H19; intro a20 H20
  refine st_alloc rfl z_zeroN32 rfl rfl rfl H20 ?_
  clear H20; intro b21 a21 wx21 H21
  refine st_storeN rfl z_size32 rfl rfl (agg_cells _) (by repeat (first | exact Uh | apply Ut)) (q_one_c4b32c1 rfl rfl rfl rfl rfl) (q_len_c4b32c1 (by assumption)) (q_len_c4b32c1 (by assumption)) (q_spl_c4b32c1_0_c4b32c1 (by assumption) (by assumption)) (by decide) rfl rfl H21 ?_
  clear H21; intro wx22 H22
  refine plain (y_assign rfl rfl) rfl rfl rfl H22 ?_
  clear H22; intro a23 H23
  refine fin ?_
  refine then_n ?_
  refine wp_seq ?_
  refine wp_seq ?_
  refine reg ?_
  refine st_callg rfl z_call15 rfl rfl rfl rfl H23 (aawake (hG.frm H23.sep.frm (by simp))) ?_
  clear H23; intro a24 wx24 H24
  refine plain (y_not rfl rfl) rfl rfl rfl H24 ?_
  clear H24; intro a25 H25
  refine plain (y_move rfl rfl) rfl rfl rfl H25 ?_
  clear H25; intro a26 H26
  refine plain (y_move rfl rfl) rfl rfl rfl H26 ?_
  clear H26; intro a27 H27
  refine plain ((by first | exact y_not_d rfl rfl | exact y_not rfl rfl)) rfl rfl rfl H27 ?_
  clear H27; intro a28 H28
  refine plain (y_pick_f rfl rfl rfl) rfl rfl rfl H28 ?_
  clear H28; intro a29 H29
  refine plain (y_move rfl rfl) rfl rfl rfl H29 ?_
  clear H29; intro a30 H30
  refine Sx.part (d := 32) H30 rfl (fun hg31 => ?_) (fun hg31 => ?_)
  · first
    | fail
    | skip
      clear H30; intro H32
      try simp only [decide_eq_true_eq, decide_eq_false_iff_not, Bool.not_eq_true', Bool.not_eq_false', Bool.and_eq_true, Bool.not_eq_true, Bool.not_eq_false] at hg31
      refine skip rfl rfl rfl H32 ?_
      clear H32; intro a33 H33
      refine skip rfl rfl rfl H33 ?_
      clear H33; intro a34 H34
      refine skip rfl rfl rfl H34 ?_
      clear H34; intro a35 H35
      refine skip rfl rfl rfl H35 ?_
      clear H35; intro a36 H36
      refine skip rfl rfl rfl H36 ?_
      clear H36; intro a37 H37
      refine skip rfl rfl rfl H37 ?_
      clear H37; intro a38 H38
      refine plain (y_pick_t rfl rfl rfl) rfl rfl rfl H38 ?_
      clear H38; intro a39 H39
      refine fin ?_
      refine then_n ?_
      refine cnd_t H39 rfl ?_
      refine wp_seq ?_
      refine reg ?_
      refine st_callg rfl z_call15 rfl rfl rfl rfl H39 (aawake (hG.frm H39.sep.frm (by simp))) ?_
      clear H39; intro a41 wx41 H41
      refine plain (y_assign rfl rfl) rfl rfl rfl H41 ?_
      clear H41; intro a42 H42
      refine fin ?_
      refine then_n ?_
      refine wp_ret ?_
      refine then_r ?_
      -- return 1
      refine ret1 rfl H42 rfl ?_
      first | (exact ⟨_, [], rfl, ⟨rfl, rfl⟩, H42.sep.sub (List.nil_sublist _)⟩) | (exact ⟨_, [], rfl, ⟨congrArg Value.bool (decide_eq_true hlo.2.2), rfl⟩, H42.sep.sub (List.nil_sublist _)⟩)
  · first
    | fail
    | skip
      clear H30; intro H43
      try simp only [decide_eq_true_eq, decide_eq_false_iff_not, Bool.not_eq_true', Bool.not_eq_false', Bool.and_eq_true, Bool.not_eq_true, Bool.not_eq_false] at hg31
      refine plain (y_fieldB rfl z_field30_2 rfl (by first | (simp only [Nat.zero_add, Nat.add_zero, Nat.reduceAdd]; rfl) | rfl)) rfl rfl rfl H43 ?_
      clear H43; intro a44 H44
      refine plain (y_loadB rfl z_agg3 rfl (by repeat (first | exact Mh | apply Mt)) q_ix_c4b32_2) rfl rfl rfl H44 ?_
      clear H44; intro a45 H45
      refine plain (y_fieldB rfl z_field32_0 rfl (by first | (simp only [Nat.zero_add, Nat.add_zero, Nat.reduceAdd]; rfl) | rfl)) rfl rfl rfl H45 ?_
      clear H45; intro a46 H46
      refine plain (y_fieldB rfl z_field30_2 rfl (by first | (simp only [Nat.zero_add, Nat.add_zero, Nat.reduceAdd]; rfl) | rfl)) rfl rfl rfl H46 ?_
      clear H46; intro a47 H47
      refine plain (y_loadB rfl z_agg3 rfl (by repeat (first | exact Mh | apply Mt)) q_ix_c4b32c1_2) rfl rfl rfl H47 ?_
      clear H47; intro a48 H48
      refine plain (y_geq rfl rfl rfl) rfl rfl rfl H48 ?_
      clear H48; intro a49 H49
      refine plain (y_pick_f rfl rfl rfl) rfl rfl rfl H49 ?_
      clear H49; intro a50 H50
      refine fin ?_
      refine then_n ?_
      refine cnd H50 rfl (fun hc51 => ?_) (fun hc51 => ?_) -- cond 2
      · skip
        try simp only [decide_eq_true_eq, decide_eq_false_iff_not, Bool.not_eq_true', Bool.not_eq_false', Bool.and_eq_true, Bool.not_eq_true, Bool.not_eq_false] at hc51
        refine wp_seq ?_
        refine reg ?_
        refine st_callg rfl z_call15 rfl rfl rfl rfl H50 (aawake (hG.frm H50.sep.frm (by simp))) ?_
        clear H50; intro a52 wx52 H52
        refine plain (y_assign rfl rfl) rfl rfl rfl H52 ?_
        clear H52; intro a53 H53
        refine fin ?_
        refine then_n ?_
        refine wp_ret ?_
        refine then_r ?_
        -- return 2
        refine ret1 rfl H53 rfl ?_
        first | (exact ⟨_, [], rfl, ⟨rfl, rfl⟩, H53.sep.sub (List.nil_sublist _)⟩) | (exact ⟨_, [], rfl, ⟨congrArg Value.bool (decide_eq_true hlo.2.2), rfl⟩, H53.sep.sub (List.nil_sublist _)⟩)
      · skip
        try simp only [decide_eq_true_eq, decide_eq_false_iff_not, Bool.not_eq_true', Bool.not_eq_false', Bool.and_eq_true, Bool.not_eq_true, Bool.not_eq_false] at hc51
        have hWt : W.2 = true := by simp_all
        have hlo := Auction.lose (x := x) (show (Auction.win Y fs r fl).2 = true by rw [← hW]; exact hWt) (by rw [← hW]; omega)
        rw [← hW, ← hV] at hlo
        refine wp_skip ?_
        refine then_n ?_
        refine wp_seq ?_
        refine wp_seq ?_
        refine reg ?_
        refine plain (y_assign rfl rfl) rfl rfl rfl H50 ?_
        clear H50; intro a54 H54
        refine fin ?_
        refine then_n ?_
        refine wp_block ?_
        refine loop (ι := Nat) (fun k => [(2, .pointer (some ⟨b1, 0, none⟩)), (3, .pointer (some ⟨b2, 0, none⟩)), (4, .bool false), (5, .pointer (some ⟨b21, 0, none⟩)), (7, .int .i64 (k : Int))]) (fun k => [It.blk b21 32 (Auction.Win.cells W.1), It.blk b2 30 (Note.Bid.cells x), It.blk b1 25 [Value.slice A Y.length c, Value.slice B fs.length e, i64 r, i64 fl]]) (fun k => k ≤ Y.length) (fun k => Y.length - k) (0) (Nat.zero_le _) (H54.weak ⟨rfl, rfl, rfl, rfl, rfl, trivial⟩ rfl) ?_
        clear H54; intro k a55 wx55 hok55 H55
        have hok := hok55
        refine wp_seq ?_
        refine wp_seq ?_
        refine reg ?_
        refine plain (y_move rfl rfl) rfl rfl rfl H55 ?_
        clear H55; intro a56 H56
        refine plain (y_fieldB rfl z_field25_0 rfl (by first | (simp only [Nat.zero_add, Nat.add_zero, Nat.reduceAdd]; rfl) | rfl)) rfl rfl rfl H56 ?_
        clear H56; intro a57 H57
        refine plain (y_loadB rfl z_agg22 rfl (by repeat (first | exact Mh | apply Mt)) q_ix_c4_0) rfl rfl rfl H57 ?_
        clear H57; intro a58 H58
        refine plain (y_len rfl Tryd.underlying22 rfl) rfl rfl rfl H58 ?_
        clear H58; intro a59 H59
        refine plain (y_lss rfl rfl rfl) rfl rfl rfl H59 ?_
        clear H59; intro a60 H60
        refine fin ?_
        refine then_n ?_
        refine cnd H60 rfl (fun hc61 => ?_) (fun hc61 => ?_) -- cond 3
        · skip
          try simp only [decide_eq_true_eq, decide_eq_false_iff_not, Bool.not_eq_true', Bool.not_eq_false', Bool.and_eq_true, Bool.not_eq_true, Bool.not_eq_false] at hc61
          refine wp_skip ?_
          refine then_n ?_
          refine wp_seq ?_
          refine wp_block ?_
          refine wp_seq ?_
          have hkl : k < Y.length := by omega
          refine qreg (by kernel_rfl) (by kernel_rfl) H60 ?_
          have F62 := H60.fr
          clear H60
          refine qplain (y_fieldB rfl z_field25_0 rfl (by first | (simp only [Nat.zero_add, Nat.add_zero, Nat.reduceAdd]; rfl) | rfl)) rfl rfl rfl F62 ?_
          clear F62; intro a63 H63
          refine qplain (y_loadB rfl z_agg22 rfl (by repeat (first | exact Mh | apply Mt)) q_ix_c4_0) rfl rfl rfl H63 ?_
          clear H63; intro a64 H64
          refine qplain (y_move rfl rfl) rfl rfl rfl H64 ?_
          clear H64; intro a65 H65
          refine qplain (y_ixR rfl Tryd.underlying22 z_size30 rfl rfl (by omega) (by omega) (rd_old hA (by simp)) (by rw [Auction.bdc_len hw]; omega)) rfl rfl rfl H65 ?_
          clear H65; intro a66 H66
          refine qplain (y_fieldS rfl z_field30_1 rfl (rd_old hA (by simp)) (by rw [Auction.bdc_len hw]; omega)) rfl rfl rfl H66 ?_
          clear H66; intro a67 H67
          refine qplain (y_loadR rfl z_agg3 rfl (rd_old hA (by simp)) (by simp only [Int.toNat_natCast, Nat.zero_add, Nat.add_zero]; exact (show _ = some (i64 (Y.getD k Note.Bid.zero).who) from Auction.bdc_at (c := 1) hw hkl (by omega)))) rfl rfl rfl H67 ?_
          clear H67; intro a68 H68
          refine qplain (y_fieldB rfl z_field30_1 rfl (by first | (simp only [Nat.zero_add, Nat.add_zero, Nat.reduceAdd]; rfl) | rfl)) rfl rfl rfl H68 ?_
          clear H68; intro a69 H69
          refine qplain (y_loadB rfl z_agg3 rfl (by repeat (first | exact Mh | apply Mt)) q_ix_c4b32_1) rfl rfl rfl H69 ?_
          clear H69; intro a70 H70
          refine qplain (y_eql rfl rfl rfl) rfl rfl rfl H70 ?_
          clear H70; intro a71 H71
          refine qfin H71 ?_
          clear H71; intro wx72 H72
          refine then_n ?_
          refine cnd H72 rfl (fun hc73 => ?_) (fun hc73 => ?_) -- cond 4
          · skip
            try simp only [decide_eq_true_eq, decide_eq_false_iff_not, Bool.not_eq_true', Bool.not_eq_false', Bool.and_eq_true, Bool.not_eq_true, Bool.not_eq_false] at hc73
            refine wp_seq ?_
            refine reg ?_
            refine plain (y_assign rfl rfl) rfl rfl rfl H72 ?_
            clear H72; intro a74 H74
            refine fin ?_
            refine then_n ?_
            refine wp_ret ?_
            refine inb_r ?_
            refine then_r ?_
            refine then_r ?_
            refine inb_r ?_
            refine then_r ?_
            -- return 3
            refine ret1 rfl H74 rfl ?_
            first | (exact ⟨_, [], rfl, ⟨rfl, rfl⟩, H74.sep.sub (List.nil_sublist _)⟩) | (exact ⟨_, [], rfl, ⟨congrArg Value.bool (decide_eq_true hlo.2.2), rfl⟩, H74.sep.sub (List.nil_sublist _)⟩)
          · skip
            try simp only [decide_eq_true_eq, decide_eq_false_iff_not, Bool.not_eq_true', Bool.not_eq_false', Bool.and_eq_true, Bool.not_eq_true, Bool.not_eq_false] at hc73
            refine wp_skip ?_
            refine inb_n ?_
            refine then_n ?_
            refine reg ?_
            refine plain (y_move rfl rfl) rfl rfl rfl H72 ?_
            clear H72; intro a75 H75
            refine plain (y_add rfl rfl rfl (by first | exact w64 (by omega) (by omega) | rfl)) rfl rfl rfl H75 ?_
            clear H75; intro a76 H76
            refine plain (y_assign rfl rfl) rfl rfl rfl H76 ?_
            clear H76; intro a77 H77
            refine fin ?_
            refine then_n ?_
            exact ⟨k + 1, by omega, by omega, H77.weak ⟨rfl, rfl, rfl, rfl, fi rfl (by omega), trivial⟩ rfl⟩
        · skip
          try simp only [decide_eq_true_eq, decide_eq_false_iff_not, Bool.not_eq_true', Bool.not_eq_false', Bool.and_eq_true, Bool.not_eq_true, Bool.not_eq_false] at hc61
          refine wp_exit ?_
          refine then_x ?_
          refine then_x ?_
          refine inb_hit ?_
          refine then_n ?_
          refine wp_seq ?_
          refine hreg _ (fun _ h => h) (by kernel_rfl) H60 ?_
          clear H60; intro wx78 H78
          refine htake 1 rfl (by kernel_rfl) (y_fieldB rfl z_field25_0 rfl (by first | (simp only [Nat.zero_add, Nat.add_zero, Nat.reduceAdd]; rfl) | rfl)) rfl rfl rfl (fun _ h => (h.sub (by first | exact S0 | exact S1 | repeat (first | exact S1 | exact S0 | apply S2 | apply S3)))) H78 ?_
          clear H78; intro a79 H79
          refine htake 2 rfl (by kernel_rfl) (y_loadB rfl z_agg22 rfl (by repeat (first | exact Mh | apply Mt)) q_ix_c4_0) rfl rfl rfl (fun _ h => (h.sub (by first | exact S0 | exact S1 | repeat (first | exact S1 | exact S0 | apply S2 | apply S3)))) H79 ?_
          clear H79; intro a80 H80
          refine htake 4 rfl (by kernel_rfl) (y_loadAB rfl z_agg30 z_size30 rfl (by repeat (first | exact Mh | apply Mt)) (q_ld_c4b32_0_36 (by assumption)) (q_len_c4b32 (by assumption))) rfl rfl rfl (fun _ h => (h.sub (by first | exact S0 | exact S1 | repeat (first | exact S1 | exact S0 | apply S2 | apply S3)))) H80 ?_
          clear H80; intro a81 H81
          refine htake 7 rfl (by kernel_rfl) (y_fieldB rfl z_field25_1 rfl (by first | (simp only [Nat.zero_add, Nat.add_zero, Nat.reduceAdd]; rfl) | rfl)) rfl rfl rfl (fun _ h => (h.sub (by first | exact S0 | exact S1 | repeat (first | exact S1 | exact S0 | apply S2 | apply S3)))) H81 ?_
          clear H81; intro a82 H82
          refine htake 8 rfl (by kernel_rfl) (y_loadB rfl z_agg23 rfl (by repeat (first | exact Mh | apply Mt)) q_ix_c4_1) rfl rfl rfl (fun _ h => (h.sub (by first | exact S0 | exact S1 | repeat (first | exact S1 | exact S0 | apply S2 | apply S3)))) H82 ?_
          clear H82; intro a83 H83
          refine htake 9 rfl (by kernel_rfl) (y_fieldB rfl z_field25_2 rfl (by first | (simp only [Nat.zero_add, Nat.add_zero, Nat.reduceAdd]; rfl) | rfl)) rfl rfl rfl (fun _ h => (h.sub (by first | exact S0 | exact S1 | repeat (first | exact S1 | exact S0 | apply S2 | apply S3)))) H83 ?_
          clear H83; intro a84 H84
          refine htake 10 rfl (by kernel_rfl) (y_loadB rfl z_agg3 rfl (by repeat (first | exact Mh | apply Mt)) q_ix_c4_2) rfl rfl rfl (fun _ h => (h.sub (by first | exact S0 | exact S1 | repeat (first | exact S1 | exact S0 | apply S2 | apply S3)))) H84 ?_
          clear H84; intro a85 H85
          refine htake 11 rfl (by kernel_rfl) (y_fieldB rfl z_field25_3 rfl (by first | (simp only [Nat.zero_add, Nat.add_zero, Nat.reduceAdd]; rfl) | rfl)) rfl rfl rfl (fun _ h => (h.sub (by first | exact S0 | exact S1 | repeat (first | exact S1 | exact S0 | apply S2 | apply S3)))) H85 ?_
          clear H85; intro a86 H86
          refine htake 12 rfl (by kernel_rfl) (y_loadB rfl z_agg3 rfl (by repeat (first | exact Mh | apply Mt)) q_ix_c4_3) rfl rfl rfl (fun _ h => (h.sub (by first | exact S0 | exact S1 | repeat (first | exact S1 | exact S0 | apply S2 | apply S3)))) H86 ?_
          clear H86; intro a87 H87
          refine hgo3 0 5 17 rfl rfl rfl (by kernel_rfl) ?_ ?_ ?_
          · skip
            refine st_buildSlice rfl Tryd.underlying22 z_size30 z_zero30 rfl rfl rfl rfl rfl rfl rfl H87 ?_
            clear H87; intro b88 a88 wx88 H88
            refine hfin (H88.sep.sub (by first | exact S0 | exact S1 | repeat (first | exact S1 | exact S0 | apply S2 | apply S3))) ?_
            refine hgo3 3 5 17 rfl rfl rfl (by kernel_rfl) ?_ ?_ ?_
            · skip
              replace H88 := H88.asRow (b := b88) (size := 36) (m := 0) (by repeat (first | exact Uh | apply Ut)) rfl (by unfold maxLen; omega)
              refine st_append rfl z_slice22 z_notint22 rfl rfl (fun _ => (by repeat (first | exact Uh | apply Ut))) (fun w hs => Src.slice ((rd_old hA (by simp)) w hs) (Auction.bdc_len hw) (Auction.bdc_cell _)) (by unfold maxLen at *; first | omega | (simp only [List.length_cons, List.length_nil, List.length_append, List.length_map]; omega)) (by omega) rfl rfl rfl H88 ?_
              clear H88; intro v89 a89 wx89 hnil89 H89
              obtain ⟨Ar89, cr89, hvr89, hRr89, hmr89⟩ := row_shape (v := v89) H89.sep (by repeat (first | exact Mh | apply Mt))
              subst hvr89
              refine hfin (H89.sep.sub (by first | exact S0 | exact S1 | repeat (first | exact S1 | exact S0 | apply S2 | apply S3))) ?_
              refine hgo2 5 17 rfl rfl (by kernel_rfl) ?_ ?_
              · skip
                refine st_buildSlice rfl Tryd.underlying22 z_size30 z_zero30 rfl rfl rfl (lay_agg (agg_cells _) (Auction.bid_len hxt) (by simp)) rfl rfl rfl H89 ?_
                clear H89; intro b90 a90 wx90 H90
                refine hfin (H90.sep.sub (by first | exact S0 | exact S1 | repeat (first | exact S1 | exact S0 | apply S2 | apply S3))) ?_
                refine hgo2 6 17 rfl rfl (by kernel_rfl) ?_ ?_
                · skip
                  refine st_append rfl z_slice22 z_notint22 rfl rfl (fun _ => (by repeat (first | exact Uh | apply Ut))) (fun w hs => Src.slice ((rd_blkA (by repeat (first | exact Mh | apply Mt))) w hs) (Auction.bid_len hxt) (Auction.bid_cell _)) (by unfold maxLen at *; first | omega | (simp only [List.length_cons, List.length_nil, List.length_append, List.length_map]; omega)) (by omega) rfl rfl rfl H90 ?_
                  clear H90; intro v91 a91 wx91 hnil91 H91
                  obtain ⟨Ar91, cr91, hvr91, hRr91, hmr91⟩ := row_shape (v := v91) H91.sep (by repeat (first | exact Mh | apply Mt))
                  subst hvr91
                  refine hfin (H91.sep.sub (by first | exact S0 | exact S1 | repeat (first | exact S1 | exact S0 | apply S2 | apply S3))) ?_
                  refine hgo2 13 17 rfl rfl (by kernel_rfl) ?_ ?_
                  · skip
                    refine st_callg rfl z_call13 rfl rfl rfl rfl H91 (hwin2 _ _ _ (by simp) (by rw [Auction.bdc_append, Auction.bdc_one]; exact Rd.ofSep (rd_row (by repeat (first | exact Mh | apply Mt))) H91.sep) (Rd.frm hB H91.sep.frm (by simp)) (hG.frm H91.sep.frm (by simp))) ?_
                    clear H91; intro a92 wx92 H92
                    refine hfin (H92.sep.sub (by first | exact S0 | exact S1 | repeat (first | exact S1 | exact S0 | apply S2 | apply S3))) ?_
                    refine htake 14 rfl (by kernel_rfl) (y_move rfl rfl) rfl rfl rfl (fun _ h => (h.sub (by first | exact S0 | exact S1 | repeat (first | exact S1 | exact S0 | apply S2 | apply S3)))) H92 ?_
                    clear H92; intro a93 H93
                    refine htake 15 rfl (by kernel_rfl) (y_extract rfl rfl rfl) rfl rfl rfl (fun _ h => (h.sub (by first | exact S0 | exact S1 | repeat (first | exact S1 | exact S0 | apply S2 | apply S3)))) H93 ?_
                    clear H93; intro a94 H94
                    refine htake 16 rfl (by kernel_rfl) (y_extract rfl rfl rfl) rfl rfl rfl (fun _ h => (h.sub (by first | exact S0 | exact S1 | repeat (first | exact S1 | exact S0 | apply S2 | apply S3)))) H94 ?_
                    clear H94; intro a95 H95
                    refine hgo 17 rfl (by kernel_rfl) ?_
                    refine st_alloc rfl z_zeroN32 rfl rfl rfl H95 ?_
                    clear H95; intro b96 a96 wx96 H96
                    refine hfin (H96.sep.sub (by first | exact S0 | exact S1 | repeat (first | exact S1 | exact S0 | apply S2 | apply S3))) ?_
                    refine hgo 18 rfl (by kernel_rfl) ?_
                    refine st_storeN rfl z_size32 rfl rfl (agg_cells _) (by repeat (first | exact Uh | apply Ut)) (q_one_c4b32c1 rfl rfl rfl rfl rfl) (q_len_c4b32c1 (by assumption)) (q_len_c4b32c1 (by assumption)) (q_spl_c4b32c1_0_c4b32c1 (by assumption) (by assumption)) (by decide) rfl rfl H96 ?_
                    clear H96; intro wx97 H97
                    refine hfin (H97.sep.sub (by first | exact S0 | exact S1 | repeat (first | exact S1 | exact S0 | apply S2 | apply S3))) ?_
                    refine htake 19 rfl (by kernel_rfl) (y_assign rfl rfl) rfl rfl rfl (fun _ h => (h.sub (by first | exact S0 | exact S1 | repeat (first | exact S1 | exact S0 | apply S2 | apply S3)))) H97 ?_
                    clear H97; intro a98 H98
                    refine hdone (by kernel_rfl) ?_
                    refine then_n ?_
                    refine wp_seq ?_
                    refine reg ?_
                    refine plain (y_move rfl rfl) rfl rfl rfl H98 ?_
                    clear H98; intro a99 H99
                    refine plain (y_move rfl rfl) rfl rfl rfl H99 ?_
                    clear H99; intro a100 H100
                    have H102 := H100.know (d := 75) (v := .bool true) rfl (congrArg Value.bool hlo.1)
                    clear H100
                    refine plain (y_fieldB rfl z_field32_0 rfl (by first | (simp only [Nat.zero_add, Nat.add_zero, Nat.reduceAdd]; rfl) | rfl)) rfl rfl rfl H102 ?_
                    clear H102; intro a103 H103
                    refine plain (y_loadAB rfl z_agg30 z_size30 rfl (by repeat (first | exact Mh | apply Mt)) (q_ld_c4b32c1_0_36 (by assumption)) (q_len_c4b32 (by assumption))) rfl rfl rfl H103 ?_
                    clear H103; intro a104 H104
                    refine plain (y_fieldB rfl z_field32_0 rfl (by first | (simp only [Nat.zero_add, Nat.add_zero, Nat.reduceAdd]; rfl) | rfl)) rfl rfl rfl H104 ?_
                    clear H104; intro a105 H105
                    refine plain (y_loadAB rfl z_agg30 z_size30 rfl (by repeat (first | exact Mh | apply Mt)) (q_ld_c4b32c1_0_36 (by assumption)) (q_len_c4b32 (by assumption))) rfl rfl rfl H105 ?_
                    clear H105; intro a106 H106
                    refine plain (y_teql rfl (by kernel_rfl) rfl rfl (eqr_Bid V.1.bid W.1.bid hvt hx)) rfl rfl rfl H106 ?_
                    clear H106; intro a107 H107
                    refine plain (y_pick_t rfl rfl rfl) rfl rfl rfl H107 ?_
                    clear H107; intro a108 H108
                    refine plain (y_move rfl rfl) rfl rfl rfl H108 ?_
                    clear H108; intro a109 H109
                    have H111 := H109.know (d := 82) (v := .bool true) rfl (congrArg Value.bool (decide_eq_true (hlo.2.1)))
                    clear H109
                    refine plain (y_fieldB rfl z_field32_1 rfl (by first | (simp only [Nat.zero_add, Nat.add_zero, Nat.reduceAdd]; rfl) | rfl)) rfl rfl rfl H111 ?_
                    clear H111; intro a112 H112
                    refine plain (y_loadB rfl z_agg3 rfl (by repeat (first | exact Mh | apply Mt)) (q_ix_c4b32c1_36 (by assumption))) rfl rfl rfl H112 ?_
                    clear H112; intro a113 H113
                    refine plain (y_fieldB rfl z_field32_1 rfl (by first | (simp only [Nat.zero_add, Nat.add_zero, Nat.reduceAdd]; rfl) | rfl)) rfl rfl rfl H113 ?_
                    clear H113; intro a114 H114
                    refine plain (y_loadB rfl z_agg3 rfl (by repeat (first | exact Mh | apply Mt)) (q_ix_c4b32c1_36 (by assumption))) rfl rfl rfl H114 ?_
                    clear H114; intro a115 H115
                    refine plain (y_geq rfl rfl rfl) rfl rfl rfl H115 ?_
                    clear H115; intro a116 H116
                    refine plain (y_pick_t rfl rfl rfl) rfl rfl rfl H116 ?_
                    clear H116; intro a117 H117
                    refine plain (y_assign rfl rfl) rfl rfl rfl H117 ?_
                    clear H117; intro a118 H118
                    refine fin ?_
                    refine then_n ?_
                    refine wp_ret ?_
                    -- return 4
                    refine ret1 rfl H118 rfl ?_
                    first | (exact ⟨_, [], rfl, ⟨rfl, rfl⟩, H118.sep.sub (List.nil_sublist _)⟩) | (exact ⟨_, [], rfl, ⟨congrArg Value.bool (decide_eq_true hlo.2.2), rfl⟩, H118.sep.sub (List.nil_sublist _)⟩)
                  · skip
                    refine st_alloc rfl z_zeroN32 rfl rfl rfl H91 ?_
                    clear H91; intro b119 a119 wx119 H119
                    refine hfin (H119.sep.sub (by first | exact S0 | exact S1 | repeat (first | exact S1 | exact S0 | apply S2 | apply S3))) ?_
                    refine hgo 13 rfl (by kernel_rfl) ?_
                    refine st_callg rfl z_call13 rfl rfl rfl rfl H119 (hwin2 _ _ _ (by simp) (by rw [Auction.bdc_append, Auction.bdc_one]; exact Rd.ofSep (rd_row (by repeat (first | exact Mh | apply Mt))) H119.sep) (Rd.frm hB H119.sep.frm (by simp)) (hG.frm H119.sep.frm (by simp))) ?_
                    clear H119; intro a120 wx120 H120
                    refine hfin (H120.sep.sub (by first | exact S0 | exact S1 | repeat (first | exact S1 | exact S0 | apply S2 | apply S3))) ?_
                    refine htake 14 rfl (by kernel_rfl) (y_move rfl rfl) rfl rfl rfl (fun _ h => (h.sub (by first | exact S0 | exact S1 | repeat (first | exact S1 | exact S0 | apply S2 | apply S3)))) H120 ?_
                    clear H120; intro a121 H121
                    refine htake 15 rfl (by kernel_rfl) (y_extract rfl rfl rfl) rfl rfl rfl (fun _ h => (h.sub (by first | exact S0 | exact S1 | repeat (first | exact S1 | exact S0 | apply S2 | apply S3)))) H121 ?_
                    clear H121; intro a122 H122
                    refine htake 16 rfl (by kernel_rfl) (y_extract rfl rfl rfl) rfl rfl rfl (fun _ h => (h.sub (by first | exact S0 | exact S1 | repeat (first | exact S1 | exact S0 | apply S2 | apply S3)))) H122 ?_
                    clear H122; intro a123 H123
                    refine hgo 18 rfl (by kernel_rfl) ?_
                    refine st_storeN rfl z_size32 rfl rfl (agg_cells _) (by repeat (first | exact Uh | apply Ut)) (q_one_c4b32c1 rfl rfl rfl rfl rfl) (q_len_c4b32c1 (by assumption)) (q_len_c4b32c1 (by assumption)) (q_spl_c4b32c1_0_c4b32c1 (by assumption) (by assumption)) (by decide) rfl rfl H123 ?_
                    clear H123; intro wx124 H124
                    refine hfin (H124.sep.sub (by first | exact S0 | exact S1 | repeat (first | exact S1 | exact S0 | apply S2 | apply S3))) ?_
                    refine htake 19 rfl (by kernel_rfl) (y_assign rfl rfl) rfl rfl rfl (fun _ h => (h.sub (by first | exact S0 | exact S1 | repeat (first | exact S1 | exact S0 | apply S2 | apply S3)))) H124 ?_
                    clear H124; intro a125 H125
                    refine hdone (by kernel_rfl) ?_
                    refine then_n ?_
                    refine wp_seq ?_
                    refine reg ?_
                    refine plain (y_move rfl rfl) rfl rfl rfl H125 ?_
                    clear H125; intro a126 H126
                    refine plain (y_move rfl rfl) rfl rfl rfl H126 ?_
                    clear H126; intro a127 H127
                    have H129 := H127.know (d := 75) (v := .bool true) rfl (congrArg Value.bool hlo.1)
                    clear H127
                    refine plain (y_fieldB rfl z_field32_0 rfl (by first | (simp only [Nat.zero_add, Nat.add_zero, Nat.reduceAdd]; rfl) | rfl)) rfl rfl rfl H129 ?_
                    clear H129; intro a130 H130
                    refine plain (y_loadAB rfl z_agg30 z_size30 rfl (by repeat (first | exact Mh | apply Mt)) (q_ld_c4b32c1_0_36 (by assumption)) (q_len_c4b32 (by assumption))) rfl rfl rfl H130 ?_
                    clear H130; intro a131 H131
                    refine plain (y_fieldB rfl z_field32_0 rfl (by first | (simp only [Nat.zero_add, Nat.add_zero, Nat.reduceAdd]; rfl) | rfl)) rfl rfl rfl H131 ?_
                    clear H131; intro a132 H132
                    refine plain (y_loadAB rfl z_agg30 z_size30 rfl (by repeat (first | exact Mh | apply Mt)) (q_ld_c4b32c1_0_36 (by assumption)) (q_len_c4b32 (by assumption))) rfl rfl rfl H132 ?_
                    clear H132; intro a133 H133
                    refine plain (y_teql rfl (by kernel_rfl) rfl rfl (eqr_Bid V.1.bid W.1.bid hvt hx)) rfl rfl rfl H133 ?_
                    clear H133; intro a134 H134
                    refine plain (y_pick_t rfl rfl rfl) rfl rfl rfl H134 ?_
                    clear H134; intro a135 H135
                    refine plain (y_move rfl rfl) rfl rfl rfl H135 ?_
                    clear H135; intro a136 H136
                    have H138 := H136.know (d := 82) (v := .bool true) rfl (congrArg Value.bool (decide_eq_true (hlo.2.1)))
                    clear H136
                    refine plain (y_fieldB rfl z_field32_1 rfl (by first | (simp only [Nat.zero_add, Nat.add_zero, Nat.reduceAdd]; rfl) | rfl)) rfl rfl rfl H138 ?_
                    clear H138; intro a139 H139
                    refine plain (y_loadB rfl z_agg3 rfl (by repeat (first | exact Mh | apply Mt)) (q_ix_c4b32c1_36 (by assumption))) rfl rfl rfl H139 ?_
                    clear H139; intro a140 H140
                    refine plain (y_fieldB rfl z_field32_1 rfl (by first | (simp only [Nat.zero_add, Nat.add_zero, Nat.reduceAdd]; rfl) | rfl)) rfl rfl rfl H140 ?_
                    clear H140; intro a141 H141
                    refine plain (y_loadB rfl z_agg3 rfl (by repeat (first | exact Mh | apply Mt)) (q_ix_c4b32c1_36 (by assumption))) rfl rfl rfl H141 ?_
                    clear H141; intro a142 H142
                    refine plain (y_geq rfl rfl rfl) rfl rfl rfl H142 ?_
                    clear H142; intro a143 H143
                    refine plain (y_pick_t rfl rfl rfl) rfl rfl rfl H143 ?_
                    clear H143; intro a144 H144
                    refine plain (y_assign rfl rfl) rfl rfl rfl H144 ?_
                    clear H144; intro a145 H145
                    refine fin ?_
                    refine then_n ?_
                    refine wp_ret ?_
                    -- return 5
                    refine ret1 rfl H145 rfl ?_
                    first | (exact ⟨_, [], rfl, ⟨rfl, rfl⟩, H145.sep.sub (List.nil_sublist _)⟩) | (exact ⟨_, [], rfl, ⟨congrArg Value.bool (decide_eq_true hlo.2.2), rfl⟩, H145.sep.sub (List.nil_sublist _)⟩)
                · skip
                  refine st_alloc rfl z_zeroN32 rfl rfl rfl H90 ?_
                  clear H90; intro b146 a146 wx146 H146
                  refine hfin (H146.sep.sub (by first | exact S0 | exact S1 | repeat (first | exact S1 | exact S0 | apply S2 | apply S3))) ?_
                  refine hgo 6 rfl (by kernel_rfl) ?_
                  refine st_append rfl z_slice22 z_notint22 rfl rfl (fun _ => (by repeat (first | exact Uh | apply Ut))) (fun w hs => Src.slice ((rd_blkA (by repeat (first | exact Mh | apply Mt))) w hs) (Auction.bid_len hxt) (Auction.bid_cell _)) (by unfold maxLen at *; first | omega | (simp only [List.length_cons, List.length_nil, List.length_append, List.length_map]; omega)) (by omega) rfl rfl rfl H146 ?_
                  clear H146; intro v147 a147 wx147 hnil147 H147
                  obtain ⟨Ar147, cr147, hvr147, hRr147, hmr147⟩ := row_shape (v := v147) H147.sep (by repeat (first | exact Mh | apply Mt))
                  subst hvr147
                  refine hfin (H147.sep.sub (by first | exact S0 | exact S1 | repeat (first | exact S1 | exact S0 | apply S2 | apply S3))) ?_
                  refine hgo 13 rfl (by kernel_rfl) ?_
                  refine st_callg rfl z_call13 rfl rfl rfl rfl H147 (hwin2 _ _ _ (by simp) (by rw [Auction.bdc_append, Auction.bdc_one]; exact Rd.ofSep (rd_row (by repeat (first | exact Mh | apply Mt))) H147.sep) (Rd.frm hB H147.sep.frm (by simp)) (hG.frm H147.sep.frm (by simp))) ?_
                  clear H147; intro a148 wx148 H148
                  refine hfin (H148.sep.sub (by first | exact S0 | exact S1 | repeat (first | exact S1 | exact S0 | apply S2 | apply S3))) ?_
                  refine htake 14 rfl (by kernel_rfl) (y_move rfl rfl) rfl rfl rfl (fun _ h => (h.sub (by first | exact S0 | exact S1 | repeat (first | exact S1 | exact S0 | apply S2 | apply S3)))) H148 ?_
                  clear H148; intro a149 H149
                  refine htake 15 rfl (by kernel_rfl) (y_extract rfl rfl rfl) rfl rfl rfl (fun _ h => (h.sub (by first | exact S0 | exact S1 | repeat (first | exact S1 | exact S0 | apply S2 | apply S3)))) H149 ?_
                  clear H149; intro a150 H150
                  refine htake 16 rfl (by kernel_rfl) (y_extract rfl rfl rfl) rfl rfl rfl (fun _ h => (h.sub (by first | exact S0 | exact S1 | repeat (first | exact S1 | exact S0 | apply S2 | apply S3)))) H150 ?_
                  clear H150; intro a151 H151
                  refine hgo 18 rfl (by kernel_rfl) ?_
                  refine st_storeN rfl z_size32 rfl rfl (agg_cells _) (by repeat (first | exact Uh | apply Ut)) (q_one_c4b32c1 rfl rfl rfl rfl rfl) (q_len_c4b32c1 (by assumption)) (q_len_c4b32c1 (by assumption)) (q_spl_c4b32c1_0_c4b32c1 (by assumption) (by assumption)) (by decide) rfl rfl H151 ?_
                  clear H151; intro wx152 H152
                  refine hfin (H152.sep.sub (by first | exact S0 | exact S1 | repeat (first | exact S1 | exact S0 | apply S2 | apply S3))) ?_
                  refine htake 19 rfl (by kernel_rfl) (y_assign rfl rfl) rfl rfl rfl (fun _ h => (h.sub (by first | exact S0 | exact S1 | repeat (first | exact S1 | exact S0 | apply S2 | apply S3)))) H152 ?_
                  clear H152; intro a153 H153
                  refine hdone (by kernel_rfl) ?_
                  refine then_n ?_
                  refine wp_seq ?_
                  refine reg ?_
                  refine plain (y_move rfl rfl) rfl rfl rfl H153 ?_
                  clear H153; intro a154 H154
                  refine plain (y_move rfl rfl) rfl rfl rfl H154 ?_
                  clear H154; intro a155 H155
                  have H157 := H155.know (d := 75) (v := .bool true) rfl (congrArg Value.bool hlo.1)
                  clear H155
                  refine plain (y_fieldB rfl z_field32_0 rfl (by first | (simp only [Nat.zero_add, Nat.add_zero, Nat.reduceAdd]; rfl) | rfl)) rfl rfl rfl H157 ?_
                  clear H157; intro a158 H158
                  refine plain (y_loadAB rfl z_agg30 z_size30 rfl (by repeat (first | exact Mh | apply Mt)) (q_ld_c4b32c1_0_36 (by assumption)) (q_len_c4b32 (by assumption))) rfl rfl rfl H158 ?_
                  clear H158; intro a159 H159
                  refine plain (y_fieldB rfl z_field32_0 rfl (by first | (simp only [Nat.zero_add, Nat.add_zero, Nat.reduceAdd]; rfl) | rfl)) rfl rfl rfl H159 ?_
                  clear H159; intro a160 H160
                  refine plain (y_loadAB rfl z_agg30 z_size30 rfl (by repeat (first | exact Mh | apply Mt)) (q_ld_c4b32c1_0_36 (by assumption)) (q_len_c4b32 (by assumption))) rfl rfl rfl H160 ?_
                  clear H160; intro a161 H161
                  refine plain (y_teql rfl (by kernel_rfl) rfl rfl (eqr_Bid V.1.bid W.1.bid hvt hx)) rfl rfl rfl H161 ?_
                  clear H161; intro a162 H162
                  refine plain (y_pick_t rfl rfl rfl) rfl rfl rfl H162 ?_
                  clear H162; intro a163 H163
                  refine plain (y_move rfl rfl) rfl rfl rfl H163 ?_
                  clear H163; intro a164 H164
                  have H166 := H164.know (d := 82) (v := .bool true) rfl (congrArg Value.bool (decide_eq_true (hlo.2.1)))
                  clear H164
                  refine plain (y_fieldB rfl z_field32_1 rfl (by first | (simp only [Nat.zero_add, Nat.add_zero, Nat.reduceAdd]; rfl) | rfl)) rfl rfl rfl H166 ?_
                  clear H166; intro a167 H167
                  refine plain (y_loadB rfl z_agg3 rfl (by repeat (first | exact Mh | apply Mt)) (q_ix_c4b32c1_36 (by assumption))) rfl rfl rfl H167 ?_
                  clear H167; intro a168 H168
                  refine plain (y_fieldB rfl z_field32_1 rfl (by first | (simp only [Nat.zero_add, Nat.add_zero, Nat.reduceAdd]; rfl) | rfl)) rfl rfl rfl H168 ?_
                  clear H168; intro a169 H169
                  refine plain (y_loadB rfl z_agg3 rfl (by repeat (first | exact Mh | apply Mt)) (q_ix_c4b32c1_36 (by assumption))) rfl rfl rfl H169 ?_
                  clear H169; intro a170 H170
                  refine plain (y_geq rfl rfl rfl) rfl rfl rfl H170 ?_
                  clear H170; intro a171 H171
                  refine plain (y_pick_t rfl rfl rfl) rfl rfl rfl H171 ?_
                  clear H171; intro a172 H172
                  refine plain (y_assign rfl rfl) rfl rfl rfl H172 ?_
                  clear H172; intro a173 H173
                  refine fin ?_
                  refine then_n ?_
                  refine wp_ret ?_
                  -- return 6
                  refine ret1 rfl H173 rfl ?_
                  first | (exact ⟨_, [], rfl, ⟨rfl, rfl⟩, H173.sep.sub (List.nil_sublist _)⟩) | (exact ⟨_, [], rfl, ⟨congrArg Value.bool (decide_eq_true hlo.2.2), rfl⟩, H173.sep.sub (List.nil_sublist _)⟩)
              · skip
                refine st_alloc rfl z_zeroN32 rfl rfl rfl H89 ?_
                clear H89; intro b174 a174 wx174 H174
                refine hfin (H174.sep.sub (by first | exact S0 | exact S1 | repeat (first | exact S1 | exact S0 | apply S2 | apply S3))) ?_
                refine hgo 5 rfl (by kernel_rfl) ?_
                refine st_buildSlice rfl Tryd.underlying22 z_size30 z_zero30 rfl rfl rfl (lay_agg (agg_cells _) (Auction.bid_len hxt) (by simp)) rfl rfl rfl H174 ?_
                clear H174; intro b175 a175 wx175 H175
                refine hfin (H175.sep.sub (by first | exact S0 | exact S1 | repeat (first | exact S1 | exact S0 | apply S2 | apply S3))) ?_
                refine hgo 6 rfl (by kernel_rfl) ?_
                refine st_append rfl z_slice22 z_notint22 rfl rfl (fun _ => (by repeat (first | exact Uh | apply Ut))) (fun w hs => Src.slice ((rd_blkA (by repeat (first | exact Mh | apply Mt))) w hs) (Auction.bid_len hxt) (Auction.bid_cell _)) (by unfold maxLen at *; first | omega | (simp only [List.length_cons, List.length_nil, List.length_append, List.length_map]; omega)) (by omega) rfl rfl rfl H175 ?_
                clear H175; intro v176 a176 wx176 hnil176 H176
                obtain ⟨Ar176, cr176, hvr176, hRr176, hmr176⟩ := row_shape (v := v176) H176.sep (by repeat (first | exact Mh | apply Mt))
                subst hvr176
                refine hfin (H176.sep.sub (by first | exact S0 | exact S1 | repeat (first | exact S1 | exact S0 | apply S2 | apply S3))) ?_
                refine hgo 13 rfl (by kernel_rfl) ?_
                refine st_callg rfl z_call13 rfl rfl rfl rfl H176 (hwin2 _ _ _ (by simp) (by rw [Auction.bdc_append, Auction.bdc_one]; exact Rd.ofSep (rd_row (by repeat (first | exact Mh | apply Mt))) H176.sep) (Rd.frm hB H176.sep.frm (by simp)) (hG.frm H176.sep.frm (by simp))) ?_
                clear H176; intro a177 wx177 H177
                refine hfin (H177.sep.sub (by first | exact S0 | exact S1 | repeat (first | exact S1 | exact S0 | apply S2 | apply S3))) ?_
                refine htake 14 rfl (by kernel_rfl) (y_move rfl rfl) rfl rfl rfl (fun _ h => (h.sub (by first | exact S0 | exact S1 | repeat (first | exact S1 | exact S0 | apply S2 | apply S3)))) H177 ?_
                clear H177; intro a178 H178
                refine htake 15 rfl (by kernel_rfl) (y_extract rfl rfl rfl) rfl rfl rfl (fun _ h => (h.sub (by first | exact S0 | exact S1 | repeat (first | exact S1 | exact S0 | apply S2 | apply S3)))) H178 ?_
                clear H178; intro a179 H179
                refine htake 16 rfl (by kernel_rfl) (y_extract rfl rfl rfl) rfl rfl rfl (fun _ h => (h.sub (by first | exact S0 | exact S1 | repeat (first | exact S1 | exact S0 | apply S2 | apply S3)))) H179 ?_
                clear H179; intro a180 H180
                refine hgo 18 rfl (by kernel_rfl) ?_
                refine st_storeN rfl z_size32 rfl rfl (agg_cells _) (by repeat (first | exact Uh | apply Ut)) (q_one_c4b32c1 rfl rfl rfl rfl rfl) (q_len_c4b32c1 (by assumption)) (q_len_c4b32c1 (by assumption)) (q_spl_c4b32c1_0_c4b32c1 (by assumption) (by assumption)) (by decide) rfl rfl H180 ?_
                clear H180; intro wx181 H181
                refine hfin (H181.sep.sub (by first | exact S0 | exact S1 | repeat (first | exact S1 | exact S0 | apply S2 | apply S3))) ?_
                refine htake 19 rfl (by kernel_rfl) (y_assign rfl rfl) rfl rfl rfl (fun _ h => (h.sub (by first | exact S0 | exact S1 | repeat (first | exact S1 | exact S0 | apply S2 | apply S3)))) H181 ?_
                clear H181; intro a182 H182
                refine hdone (by kernel_rfl) ?_
                refine then_n ?_
                refine wp_seq ?_
                refine reg ?_
                refine plain (y_move rfl rfl) rfl rfl rfl H182 ?_
                clear H182; intro a183 H183
                refine plain (y_move rfl rfl) rfl rfl rfl H183 ?_
                clear H183; intro a184 H184
                have H186 := H184.know (d := 75) (v := .bool true) rfl (congrArg Value.bool hlo.1)
                clear H184
                refine plain (y_fieldB rfl z_field32_0 rfl (by first | (simp only [Nat.zero_add, Nat.add_zero, Nat.reduceAdd]; rfl) | rfl)) rfl rfl rfl H186 ?_
                clear H186; intro a187 H187
                refine plain (y_loadAB rfl z_agg30 z_size30 rfl (by repeat (first | exact Mh | apply Mt)) (q_ld_c4b32c1_0_36 (by assumption)) (q_len_c4b32 (by assumption))) rfl rfl rfl H187 ?_
                clear H187; intro a188 H188
                refine plain (y_fieldB rfl z_field32_0 rfl (by first | (simp only [Nat.zero_add, Nat.add_zero, Nat.reduceAdd]; rfl) | rfl)) rfl rfl rfl H188 ?_
                clear H188; intro a189 H189
                refine plain (y_loadAB rfl z_agg30 z_size30 rfl (by repeat (first | exact Mh | apply Mt)) (q_ld_c4b32c1_0_36 (by assumption)) (q_len_c4b32 (by assumption))) rfl rfl rfl H189 ?_
                clear H189; intro a190 H190
                refine plain (y_teql rfl (by kernel_rfl) rfl rfl (eqr_Bid V.1.bid W.1.bid hvt hx)) rfl rfl rfl H190 ?_
                clear H190; intro a191 H191
                refine plain (y_pick_t rfl rfl rfl) rfl rfl rfl H191 ?_
                clear H191; intro a192 H192
                refine plain (y_move rfl rfl) rfl rfl rfl H192 ?_
                clear H192; intro a193 H193
                have H195 := H193.know (d := 82) (v := .bool true) rfl (congrArg Value.bool (decide_eq_true (hlo.2.1)))
                clear H193
                refine plain (y_fieldB rfl z_field32_1 rfl (by first | (simp only [Nat.zero_add, Nat.add_zero, Nat.reduceAdd]; rfl) | rfl)) rfl rfl rfl H195 ?_
                clear H195; intro a196 H196
                refine plain (y_loadB rfl z_agg3 rfl (by repeat (first | exact Mh | apply Mt)) (q_ix_c4b32c1_36 (by assumption))) rfl rfl rfl H196 ?_
                clear H196; intro a197 H197
                refine plain (y_fieldB rfl z_field32_1 rfl (by first | (simp only [Nat.zero_add, Nat.add_zero, Nat.reduceAdd]; rfl) | rfl)) rfl rfl rfl H197 ?_
                clear H197; intro a198 H198
                refine plain (y_loadB rfl z_agg3 rfl (by repeat (first | exact Mh | apply Mt)) (q_ix_c4b32c1_36 (by assumption))) rfl rfl rfl H198 ?_
                clear H198; intro a199 H199
                refine plain (y_geq rfl rfl rfl) rfl rfl rfl H199 ?_
                clear H199; intro a200 H200
                refine plain (y_pick_t rfl rfl rfl) rfl rfl rfl H200 ?_
                clear H200; intro a201 H201
                refine plain (y_assign rfl rfl) rfl rfl rfl H201 ?_
                clear H201; intro a202 H202
                refine fin ?_
                refine then_n ?_
                refine wp_ret ?_
                -- return 7
                refine ret1 rfl H202 rfl ?_
                first | (exact ⟨_, [], rfl, ⟨rfl, rfl⟩, H202.sep.sub (List.nil_sublist _)⟩) | (exact ⟨_, [], rfl, ⟨congrArg Value.bool (decide_eq_true hlo.2.2), rfl⟩, H202.sep.sub (List.nil_sublist _)⟩)
            · skip
              refine st_buildSlice rfl Tryd.underlying22 z_size30 z_zero30 rfl rfl rfl (lay_agg (agg_cells _) (Auction.bid_len hxt) (by simp)) rfl rfl rfl H88 ?_
              clear H88; intro b203 a203 wx203 H203
              refine hfin (H203.sep.sub (by first | exact S0 | exact S1 | repeat (first | exact S1 | exact S0 | apply S2 | apply S3))) ?_
              refine hgo2 3 17 rfl rfl (by kernel_rfl) ?_ ?_
              · skip
                replace H203 := H203.asRow (b := b88) (size := 36) (m := 0) (by repeat (first | exact Uh | apply Ut)) rfl (by unfold maxLen; omega)
                refine st_append rfl z_slice22 z_notint22 rfl rfl (fun _ => (by repeat (first | exact Uh | apply Ut))) (fun w hs => Src.slice ((rd_old hA (by simp)) w hs) (Auction.bdc_len hw) (Auction.bdc_cell _)) (by unfold maxLen at *; first | omega | (simp only [List.length_cons, List.length_nil, List.length_append, List.length_map]; omega)) (by omega) rfl rfl rfl H203 ?_
                clear H203; intro v204 a204 wx204 hnil204 H204
                obtain ⟨Ar204, cr204, hvr204, hRr204, hmr204⟩ := row_shape (v := v204) H204.sep (by repeat (first | exact Mh | apply Mt))
                subst hvr204
                refine hfin (H204.sep.sub (by first | exact S0 | exact S1 | repeat (first | exact S1 | exact S0 | apply S2 | apply S3))) ?_
                refine hgo2 6 17 rfl rfl (by kernel_rfl) ?_ ?_
                · skip
                  refine st_append rfl z_slice22 z_notint22 rfl rfl (fun _ => (by repeat (first | exact Uh | apply Ut))) (fun w hs => Src.slice ((rd_blkA (by repeat (first | exact Mh | apply Mt))) w hs) (Auction.bid_len hxt) (Auction.bid_cell _)) (by unfold maxLen at *; first | omega | (simp only [List.length_cons, List.length_nil, List.length_append, List.length_map]; omega)) (by omega) rfl rfl rfl H204 ?_
                  clear H204; intro v205 a205 wx205 hnil205 H205
                  obtain ⟨Ar205, cr205, hvr205, hRr205, hmr205⟩ := row_shape (v := v205) H205.sep (by repeat (first | exact Mh | apply Mt))
                  subst hvr205
                  refine hfin (H205.sep.sub (by first | exact S0 | exact S1 | repeat (first | exact S1 | exact S0 | apply S2 | apply S3))) ?_
                  refine hgo2 13 17 rfl rfl (by kernel_rfl) ?_ ?_
                  · skip
                    refine st_callg rfl z_call13 rfl rfl rfl rfl H205 (hwin2 _ _ _ (by simp) (by rw [Auction.bdc_append, Auction.bdc_one]; exact Rd.ofSep (rd_row (by repeat (first | exact Mh | apply Mt))) H205.sep) (Rd.frm hB H205.sep.frm (by simp)) (hG.frm H205.sep.frm (by simp))) ?_
                    clear H205; intro a206 wx206 H206
                    refine hfin (H206.sep.sub (by first | exact S0 | exact S1 | repeat (first | exact S1 | exact S0 | apply S2 | apply S3))) ?_
                    refine htake 14 rfl (by kernel_rfl) (y_move rfl rfl) rfl rfl rfl (fun _ h => (h.sub (by first | exact S0 | exact S1 | repeat (first | exact S1 | exact S0 | apply S2 | apply S3)))) H206 ?_
                    clear H206; intro a207 H207
                    refine htake 15 rfl (by kernel_rfl) (y_extract rfl rfl rfl) rfl rfl rfl (fun _ h => (h.sub (by first | exact S0 | exact S1 | repeat (first | exact S1 | exact S0 | apply S2 | apply S3)))) H207 ?_
                    clear H207; intro a208 H208
                    refine htake 16 rfl (by kernel_rfl) (y_extract rfl rfl rfl) rfl rfl rfl (fun _ h => (h.sub (by first | exact S0 | exact S1 | repeat (first | exact S1 | exact S0 | apply S2 | apply S3)))) H208 ?_
                    clear H208; intro a209 H209
                    refine hgo 17 rfl (by kernel_rfl) ?_
                    refine st_alloc rfl z_zeroN32 rfl rfl rfl H209 ?_
                    clear H209; intro b210 a210 wx210 H210
                    refine hfin (H210.sep.sub (by first | exact S0 | exact S1 | repeat (first | exact S1 | exact S0 | apply S2 | apply S3))) ?_
                    refine hgo 18 rfl (by kernel_rfl) ?_
                    refine st_storeN rfl z_size32 rfl rfl (agg_cells _) (by repeat (first | exact Uh | apply Ut)) (q_one_c4b32c1 rfl rfl rfl rfl rfl) (q_len_c4b32c1 (by assumption)) (q_len_c4b32c1 (by assumption)) (q_spl_c4b32c1_0_c4b32c1 (by assumption) (by assumption)) (by decide) rfl rfl H210 ?_
                    clear H210; intro wx211 H211
                    refine hfin (H211.sep.sub (by first | exact S0 | exact S1 | repeat (first | exact S1 | exact S0 | apply S2 | apply S3))) ?_
                    refine htake 19 rfl (by kernel_rfl) (y_assign rfl rfl) rfl rfl rfl (fun _ h => (h.sub (by first | exact S0 | exact S1 | repeat (first | exact S1 | exact S0 | apply S2 | apply S3)))) H211 ?_
                    clear H211; intro a212 H212
                    refine hdone (by kernel_rfl) ?_
                    refine then_n ?_
                    refine wp_seq ?_
                    refine reg ?_
                    refine plain (y_move rfl rfl) rfl rfl rfl H212 ?_
                    clear H212; intro a213 H213
                    refine plain (y_move rfl rfl) rfl rfl rfl H213 ?_
                    clear H213; intro a214 H214
                    have H216 := H214.know (d := 75) (v := .bool true) rfl (congrArg Value.bool hlo.1)
                    clear H214
                    refine plain (y_fieldB rfl z_field32_0 rfl (by first | (simp only [Nat.zero_add, Nat.add_zero, Nat.reduceAdd]; rfl) | rfl)) rfl rfl rfl H216 ?_
                    clear H216; intro a217 H217
                    refine plain (y_loadAB rfl z_agg30 z_size30 rfl (by repeat (first | exact Mh | apply Mt)) (q_ld_c4b32c1_0_36 (by assumption)) (q_len_c4b32 (by assumption))) rfl rfl rfl H217 ?_
                    clear H217; intro a218 H218
                    refine plain (y_fieldB rfl z_field32_0 rfl (by first | (simp only [Nat.zero_add, Nat.add_zero, Nat.reduceAdd]; rfl) | rfl)) rfl rfl rfl H218 ?_
                    clear H218; intro a219 H219
                    refine plain (y_loadAB rfl z_agg30 z_size30 rfl (by repeat (first | exact Mh | apply Mt)) (q_ld_c4b32c1_0_36 (by assumption)) (q_len_c4b32 (by assumption))) rfl rfl rfl H219 ?_
                    clear H219; intro a220 H220
                    refine plain (y_teql rfl (by kernel_rfl) rfl rfl (eqr_Bid V.1.bid W.1.bid hvt hx)) rfl rfl rfl H220 ?_
                    clear H220; intro a221 H221
                    refine plain (y_pick_t rfl rfl rfl) rfl rfl rfl H221 ?_
                    clear H221; intro a222 H222
                    refine plain (y_move rfl rfl) rfl rfl rfl H222 ?_
                    clear H222; intro a223 H223
                    have H225 := H223.know (d := 82) (v := .bool true) rfl (congrArg Value.bool (decide_eq_true (hlo.2.1)))
                    clear H223
                    refine plain (y_fieldB rfl z_field32_1 rfl (by first | (simp only [Nat.zero_add, Nat.add_zero, Nat.reduceAdd]; rfl) | rfl)) rfl rfl rfl H225 ?_
                    clear H225; intro a226 H226
                    refine plain (y_loadB rfl z_agg3 rfl (by repeat (first | exact Mh | apply Mt)) (q_ix_c4b32c1_36 (by assumption))) rfl rfl rfl H226 ?_
                    clear H226; intro a227 H227
                    refine plain (y_fieldB rfl z_field32_1 rfl (by first | (simp only [Nat.zero_add, Nat.add_zero, Nat.reduceAdd]; rfl) | rfl)) rfl rfl rfl H227 ?_
                    clear H227; intro a228 H228
                    refine plain (y_loadB rfl z_agg3 rfl (by repeat (first | exact Mh | apply Mt)) (q_ix_c4b32c1_36 (by assumption))) rfl rfl rfl H228 ?_
                    clear H228; intro a229 H229
                    refine plain (y_geq rfl rfl rfl) rfl rfl rfl H229 ?_
                    clear H229; intro a230 H230
                    refine plain (y_pick_t rfl rfl rfl) rfl rfl rfl H230 ?_
                    clear H230; intro a231 H231
                    refine plain (y_assign rfl rfl) rfl rfl rfl H231 ?_
                    clear H231; intro a232 H232
                    refine fin ?_
                    refine then_n ?_
                    refine wp_ret ?_
                    -- return 8
                    refine ret1 rfl H232 rfl ?_
                    first | (exact ⟨_, [], rfl, ⟨rfl, rfl⟩, H232.sep.sub (List.nil_sublist _)⟩) | (exact ⟨_, [], rfl, ⟨congrArg Value.bool (decide_eq_true hlo.2.2), rfl⟩, H232.sep.sub (List.nil_sublist _)⟩)
                  · skip
                    refine st_alloc rfl z_zeroN32 rfl rfl rfl H205 ?_
                    clear H205; intro b233 a233 wx233 H233
                    refine hfin (H233.sep.sub (by first | exact S0 | exact S1 | repeat (first | exact S1 | exact S0 | apply S2 | apply S3))) ?_
                    refine hgo 13 rfl (by kernel_rfl) ?_
                    refine st_callg rfl z_call13 rfl rfl rfl rfl H233 (hwin2 _ _ _ (by simp) (by rw [Auction.bdc_append, Auction.bdc_one]; exact Rd.ofSep (rd_row (by repeat (first | exact Mh | apply Mt))) H233.sep) (Rd.frm hB H233.sep.frm (by simp)) (hG.frm H233.sep.frm (by simp))) ?_
                    clear H233; intro a234 wx234 H234
                    refine hfin (H234.sep.sub (by first | exact S0 | exact S1 | repeat (first | exact S1 | exact S0 | apply S2 | apply S3))) ?_
                    refine htake 14 rfl (by kernel_rfl) (y_move rfl rfl) rfl rfl rfl (fun _ h => (h.sub (by first | exact S0 | exact S1 | repeat (first | exact S1 | exact S0 | apply S2 | apply S3)))) H234 ?_
                    clear H234; intro a235 H235
                    refine htake 15 rfl (by kernel_rfl) (y_extract rfl rfl rfl) rfl rfl rfl (fun _ h => (h.sub (by first | exact S0 | exact S1 | repeat (first | exact S1 | exact S0 | apply S2 | apply S3)))) H235 ?_
                    clear H235; intro a236 H236
                    refine htake 16 rfl (by kernel_rfl) (y_extract rfl rfl rfl) rfl rfl rfl (fun _ h => (h.sub (by first | exact S0 | exact S1 | repeat (first | exact S1 | exact S0 | apply S2 | apply S3)))) H236 ?_
                    clear H236; intro a237 H237
                    refine hgo 18 rfl (by kernel_rfl) ?_
                    refine st_storeN rfl z_size32 rfl rfl (agg_cells _) (by repeat (first | exact Uh | apply Ut)) (q_one_c4b32c1 rfl rfl rfl rfl rfl) (q_len_c4b32c1 (by assumption)) (q_len_c4b32c1 (by assumption)) (q_spl_c4b32c1_0_c4b32c1 (by assumption) (by assumption)) (by decide) rfl rfl H237 ?_
                    clear H237; intro wx238 H238
                    refine hfin (H238.sep.sub (by first | exact S0 | exact S1 | repeat (first | exact S1 | exact S0 | apply S2 | apply S3))) ?_
                    refine htake 19 rfl (by kernel_rfl) (y_assign rfl rfl) rfl rfl rfl (fun _ h => (h.sub (by first | exact S0 | exact S1 | repeat (first | exact S1 | exact S0 | apply S2 | apply S3)))) H238 ?_
                    clear H238; intro a239 H239
                    refine hdone (by kernel_rfl) ?_
                    refine then_n ?_
                    refine wp_seq ?_
                    refine reg ?_
                    refine plain (y_move rfl rfl) rfl rfl rfl H239 ?_
                    clear H239; intro a240 H240
                    refine plain (y_move rfl rfl) rfl rfl rfl H240 ?_
                    clear H240; intro a241 H241
                    have H243 := H241.know (d := 75) (v := .bool true) rfl (congrArg Value.bool hlo.1)
                    clear H241
                    refine plain (y_fieldB rfl z_field32_0 rfl (by first | (simp only [Nat.zero_add, Nat.add_zero, Nat.reduceAdd]; rfl) | rfl)) rfl rfl rfl H243 ?_
                    clear H243; intro a244 H244
                    refine plain (y_loadAB rfl z_agg30 z_size30 rfl (by repeat (first | exact Mh | apply Mt)) (q_ld_c4b32c1_0_36 (by assumption)) (q_len_c4b32 (by assumption))) rfl rfl rfl H244 ?_
                    clear H244; intro a245 H245
                    refine plain (y_fieldB rfl z_field32_0 rfl (by first | (simp only [Nat.zero_add, Nat.add_zero, Nat.reduceAdd]; rfl) | rfl)) rfl rfl rfl H245 ?_
                    clear H245; intro a246 H246
                    refine plain (y_loadAB rfl z_agg30 z_size30 rfl (by repeat (first | exact Mh | apply Mt)) (q_ld_c4b32c1_0_36 (by assumption)) (q_len_c4b32 (by assumption))) rfl rfl rfl H246 ?_
                    clear H246; intro a247 H247
                    refine plain (y_teql rfl (by kernel_rfl) rfl rfl (eqr_Bid V.1.bid W.1.bid hvt hx)) rfl rfl rfl H247 ?_
                    clear H247; intro a248 H248
                    refine plain (y_pick_t rfl rfl rfl) rfl rfl rfl H248 ?_
                    clear H248; intro a249 H249
                    refine plain (y_move rfl rfl) rfl rfl rfl H249 ?_
                    clear H249; intro a250 H250
                    have H252 := H250.know (d := 82) (v := .bool true) rfl (congrArg Value.bool (decide_eq_true (hlo.2.1)))
                    clear H250
                    refine plain (y_fieldB rfl z_field32_1 rfl (by first | (simp only [Nat.zero_add, Nat.add_zero, Nat.reduceAdd]; rfl) | rfl)) rfl rfl rfl H252 ?_
                    clear H252; intro a253 H253
                    refine plain (y_loadB rfl z_agg3 rfl (by repeat (first | exact Mh | apply Mt)) (q_ix_c4b32c1_36 (by assumption))) rfl rfl rfl H253 ?_
                    clear H253; intro a254 H254
                    refine plain (y_fieldB rfl z_field32_1 rfl (by first | (simp only [Nat.zero_add, Nat.add_zero, Nat.reduceAdd]; rfl) | rfl)) rfl rfl rfl H254 ?_
                    clear H254; intro a255 H255
                    refine plain (y_loadB rfl z_agg3 rfl (by repeat (first | exact Mh | apply Mt)) (q_ix_c4b32c1_36 (by assumption))) rfl rfl rfl H255 ?_
                    clear H255; intro a256 H256
                    refine plain (y_geq rfl rfl rfl) rfl rfl rfl H256 ?_
                    clear H256; intro a257 H257
                    refine plain (y_pick_t rfl rfl rfl) rfl rfl rfl H257 ?_
                    clear H257; intro a258 H258
                    refine plain (y_assign rfl rfl) rfl rfl rfl H258 ?_
                    clear H258; intro a259 H259
                    refine fin ?_
                    refine then_n ?_
                    refine wp_ret ?_
                    -- return 9
                    refine ret1 rfl H259 rfl ?_
                    first | (exact ⟨_, [], rfl, ⟨rfl, rfl⟩, H259.sep.sub (List.nil_sublist _)⟩) | (exact ⟨_, [], rfl, ⟨congrArg Value.bool (decide_eq_true hlo.2.2), rfl⟩, H259.sep.sub (List.nil_sublist _)⟩)
                · skip
                  refine st_alloc rfl z_zeroN32 rfl rfl rfl H204 ?_
                  clear H204; intro b260 a260 wx260 H260
                  refine hfin (H260.sep.sub (by first | exact S0 | exact S1 | repeat (first | exact S1 | exact S0 | apply S2 | apply S3))) ?_
                  refine hgo 6 rfl (by kernel_rfl) ?_
                  refine st_append rfl z_slice22 z_notint22 rfl rfl (fun _ => (by repeat (first | exact Uh | apply Ut))) (fun w hs => Src.slice ((rd_blkA (by repeat (first | exact Mh | apply Mt))) w hs) (Auction.bid_len hxt) (Auction.bid_cell _)) (by unfold maxLen at *; first | omega | (simp only [List.length_cons, List.length_nil, List.length_append, List.length_map]; omega)) (by omega) rfl rfl rfl H260 ?_
                  clear H260; intro v261 a261 wx261 hnil261 H261
                  obtain ⟨Ar261, cr261, hvr261, hRr261, hmr261⟩ := row_shape (v := v261) H261.sep (by repeat (first | exact Mh | apply Mt))
                  subst hvr261
                  refine hfin (H261.sep.sub (by first | exact S0 | exact S1 | repeat (first | exact S1 | exact S0 | apply S2 | apply S3))) ?_
                  refine hgo 13 rfl (by kernel_rfl) ?_
                  refine st_callg rfl z_call13 rfl rfl rfl rfl H261 (hwin2 _ _ _ (by simp) (by rw [Auction.bdc_append, Auction.bdc_one]; exact Rd.ofSep (rd_row (by repeat (first | exact Mh | apply Mt))) H261.sep) (Rd.frm hB H261.sep.frm (by simp)) (hG.frm H261.sep.frm (by simp))) ?_
                  clear H261; intro a262 wx262 H262
                  refine hfin (H262.sep.sub (by first | exact S0 | exact S1 | repeat (first | exact S1 | exact S0 | apply S2 | apply S3))) ?_
                  refine htake 14 rfl (by kernel_rfl) (y_move rfl rfl) rfl rfl rfl (fun _ h => (h.sub (by first | exact S0 | exact S1 | repeat (first | exact S1 | exact S0 | apply S2 | apply S3)))) H262 ?_
                  clear H262; intro a263 H263
                  refine htake 15 rfl (by kernel_rfl) (y_extract rfl rfl rfl) rfl rfl rfl (fun _ h => (h.sub (by first | exact S0 | exact S1 | repeat (first | exact S1 | exact S0 | apply S2 | apply S3)))) H263 ?_
                  clear H263; intro a264 H264
                  refine htake 16 rfl (by kernel_rfl) (y_extract rfl rfl rfl) rfl rfl rfl (fun _ h => (h.sub (by first | exact S0 | exact S1 | repeat (first | exact S1 | exact S0 | apply S2 | apply S3)))) H264 ?_
                  clear H264; intro a265 H265
                  refine hgo 18 rfl (by kernel_rfl) ?_
                  refine st_storeN rfl z_size32 rfl rfl (agg_cells _) (by repeat (first | exact Uh | apply Ut)) (q_one_c4b32c1 rfl rfl rfl rfl rfl) (q_len_c4b32c1 (by assumption)) (q_len_c4b32c1 (by assumption)) (q_spl_c4b32c1_0_c4b32c1 (by assumption) (by assumption)) (by decide) rfl rfl H265 ?_
                  clear H265; intro wx266 H266
                  refine hfin (H266.sep.sub (by first | exact S0 | exact S1 | repeat (first | exact S1 | exact S0 | apply S2 | apply S3))) ?_
                  refine htake 19 rfl (by kernel_rfl) (y_assign rfl rfl) rfl rfl rfl (fun _ h => (h.sub (by first | exact S0 | exact S1 | repeat (first | exact S1 | exact S0 | apply S2 | apply S3)))) H266 ?_
                  clear H266; intro a267 H267
                  refine hdone (by kernel_rfl) ?_
                  refine then_n ?_
                  refine wp_seq ?_
                  refine reg ?_
                  refine plain (y_move rfl rfl) rfl rfl rfl H267 ?_
                  clear H267; intro a268 H268
                  refine plain (y_move rfl rfl) rfl rfl rfl H268 ?_
                  clear H268; intro a269 H269
                  have H271 := H269.know (d := 75) (v := .bool true) rfl (congrArg Value.bool hlo.1)
                  clear H269
                  refine plain (y_fieldB rfl z_field32_0 rfl (by first | (simp only [Nat.zero_add, Nat.add_zero, Nat.reduceAdd]; rfl) | rfl)) rfl rfl rfl H271 ?_
                  clear H271; intro a272 H272
                  refine plain (y_loadAB rfl z_agg30 z_size30 rfl (by repeat (first | exact Mh | apply Mt)) (q_ld_c4b32c1_0_36 (by assumption)) (q_len_c4b32 (by assumption))) rfl rfl rfl H272 ?_
                  clear H272; intro a273 H273
                  refine plain (y_fieldB rfl z_field32_0 rfl (by first | (simp only [Nat.zero_add, Nat.add_zero, Nat.reduceAdd]; rfl) | rfl)) rfl rfl rfl H273 ?_
                  clear H273; intro a274 H274
                  refine plain (y_loadAB rfl z_agg30 z_size30 rfl (by repeat (first | exact Mh | apply Mt)) (q_ld_c4b32c1_0_36 (by assumption)) (q_len_c4b32 (by assumption))) rfl rfl rfl H274 ?_
                  clear H274; intro a275 H275
                  refine plain (y_teql rfl (by kernel_rfl) rfl rfl (eqr_Bid V.1.bid W.1.bid hvt hx)) rfl rfl rfl H275 ?_
                  clear H275; intro a276 H276
                  refine plain (y_pick_t rfl rfl rfl) rfl rfl rfl H276 ?_
                  clear H276; intro a277 H277
                  refine plain (y_move rfl rfl) rfl rfl rfl H277 ?_
                  clear H277; intro a278 H278
                  have H280 := H278.know (d := 82) (v := .bool true) rfl (congrArg Value.bool (decide_eq_true (hlo.2.1)))
                  clear H278
                  refine plain (y_fieldB rfl z_field32_1 rfl (by first | (simp only [Nat.zero_add, Nat.add_zero, Nat.reduceAdd]; rfl) | rfl)) rfl rfl rfl H280 ?_
                  clear H280; intro a281 H281
                  refine plain (y_loadB rfl z_agg3 rfl (by repeat (first | exact Mh | apply Mt)) (q_ix_c4b32c1_36 (by assumption))) rfl rfl rfl H281 ?_
                  clear H281; intro a282 H282
                  refine plain (y_fieldB rfl z_field32_1 rfl (by first | (simp only [Nat.zero_add, Nat.add_zero, Nat.reduceAdd]; rfl) | rfl)) rfl rfl rfl H282 ?_
                  clear H282; intro a283 H283
                  refine plain (y_loadB rfl z_agg3 rfl (by repeat (first | exact Mh | apply Mt)) (q_ix_c4b32c1_36 (by assumption))) rfl rfl rfl H283 ?_
                  clear H283; intro a284 H284
                  refine plain (y_geq rfl rfl rfl) rfl rfl rfl H284 ?_
                  clear H284; intro a285 H285
                  refine plain (y_pick_t rfl rfl rfl) rfl rfl rfl H285 ?_
                  clear H285; intro a286 H286
                  refine plain (y_assign rfl rfl) rfl rfl rfl H286 ?_
                  clear H286; intro a287 H287
                  refine fin ?_
                  refine then_n ?_
                  refine wp_ret ?_
                  -- return 10
                  refine ret1 rfl H287 rfl ?_
                  first | (exact ⟨_, [], rfl, ⟨rfl, rfl⟩, H287.sep.sub (List.nil_sublist _)⟩) | (exact ⟨_, [], rfl, ⟨congrArg Value.bool (decide_eq_true hlo.2.2), rfl⟩, H287.sep.sub (List.nil_sublist _)⟩)
              · skip
                refine st_alloc rfl z_zeroN32 rfl rfl rfl H203 ?_
                clear H203; intro b288 a288 wx288 H288
                refine hfin (H288.sep.sub (by first | exact S0 | exact S1 | repeat (first | exact S1 | exact S0 | apply S2 | apply S3))) ?_
                refine hgo 3 rfl (by kernel_rfl) ?_
                replace H288 := H288.asRow (b := b88) (size := 36) (m := 0) (by repeat (first | exact Uh | apply Ut)) rfl (by unfold maxLen; omega)
                refine st_append rfl z_slice22 z_notint22 rfl rfl (fun _ => (by repeat (first | exact Uh | apply Ut))) (fun w hs => Src.slice ((rd_old hA (by simp)) w hs) (Auction.bdc_len hw) (Auction.bdc_cell _)) (by unfold maxLen at *; first | omega | (simp only [List.length_cons, List.length_nil, List.length_append, List.length_map]; omega)) (by omega) rfl rfl rfl H288 ?_
                clear H288; intro v289 a289 wx289 hnil289 H289
                obtain ⟨Ar289, cr289, hvr289, hRr289, hmr289⟩ := row_shape (v := v289) H289.sep (by repeat (first | exact Mh | apply Mt))
                subst hvr289
                refine hfin (H289.sep.sub (by first | exact S0 | exact S1 | repeat (first | exact S1 | exact S0 | apply S2 | apply S3))) ?_
                refine hgo 6 rfl (by kernel_rfl) ?_
                refine st_append rfl z_slice22 z_notint22 rfl rfl (fun _ => (by repeat (first | exact Uh | apply Ut))) (fun w hs => Src.slice ((rd_blkA (by repeat (first | exact Mh | apply Mt))) w hs) (Auction.bid_len hxt) (Auction.bid_cell _)) (by unfold maxLen at *; first | omega | (simp only [List.length_cons, List.length_nil, List.length_append, List.length_map]; omega)) (by omega) rfl rfl rfl H289 ?_
                clear H289; intro v290 a290 wx290 hnil290 H290
                obtain ⟨Ar290, cr290, hvr290, hRr290, hmr290⟩ := row_shape (v := v290) H290.sep (by repeat (first | exact Mh | apply Mt))
                subst hvr290
                refine hfin (H290.sep.sub (by first | exact S0 | exact S1 | repeat (first | exact S1 | exact S0 | apply S2 | apply S3))) ?_
                refine hgo 13 rfl (by kernel_rfl) ?_
                refine st_callg rfl z_call13 rfl rfl rfl rfl H290 (hwin2 _ _ _ (by simp) (by rw [Auction.bdc_append, Auction.bdc_one]; exact Rd.ofSep (rd_row (by repeat (first | exact Mh | apply Mt))) H290.sep) (Rd.frm hB H290.sep.frm (by simp)) (hG.frm H290.sep.frm (by simp))) ?_
                clear H290; intro a291 wx291 H291
                refine hfin (H291.sep.sub (by first | exact S0 | exact S1 | repeat (first | exact S1 | exact S0 | apply S2 | apply S3))) ?_
                refine htake 14 rfl (by kernel_rfl) (y_move rfl rfl) rfl rfl rfl (fun _ h => (h.sub (by first | exact S0 | exact S1 | repeat (first | exact S1 | exact S0 | apply S2 | apply S3)))) H291 ?_
                clear H291; intro a292 H292
                refine htake 15 rfl (by kernel_rfl) (y_extract rfl rfl rfl) rfl rfl rfl (fun _ h => (h.sub (by first | exact S0 | exact S1 | repeat (first | exact S1 | exact S0 | apply S2 | apply S3)))) H292 ?_
                clear H292; intro a293 H293
                refine htake 16 rfl (by kernel_rfl) (y_extract rfl rfl rfl) rfl rfl rfl (fun _ h => (h.sub (by first | exact S0 | exact S1 | repeat (first | exact S1 | exact S0 | apply S2 | apply S3)))) H293 ?_
                clear H293; intro a294 H294
                refine hgo 18 rfl (by kernel_rfl) ?_
                refine st_storeN rfl z_size32 rfl rfl (agg_cells _) (by repeat (first | exact Uh | apply Ut)) (q_one_c4b32c1 rfl rfl rfl rfl rfl) (q_len_c4b32c1 (by assumption)) (q_len_c4b32c1 (by assumption)) (q_spl_c4b32c1_0_c4b32c1 (by assumption) (by assumption)) (by decide) rfl rfl H294 ?_
                clear H294; intro wx295 H295
                refine hfin (H295.sep.sub (by first | exact S0 | exact S1 | repeat (first | exact S1 | exact S0 | apply S2 | apply S3))) ?_
                refine htake 19 rfl (by kernel_rfl) (y_assign rfl rfl) rfl rfl rfl (fun _ h => (h.sub (by first | exact S0 | exact S1 | repeat (first | exact S1 | exact S0 | apply S2 | apply S3)))) H295 ?_
                clear H295; intro a296 H296
                refine hdone (by kernel_rfl) ?_
                refine then_n ?_
                refine wp_seq ?_
                refine reg ?_
                refine plain (y_move rfl rfl) rfl rfl rfl H296 ?_
                clear H296; intro a297 H297
                refine plain (y_move rfl rfl) rfl rfl rfl H297 ?_
                clear H297; intro a298 H298
                have H300 := H298.know (d := 75) (v := .bool true) rfl (congrArg Value.bool hlo.1)
                clear H298
                refine plain (y_fieldB rfl z_field32_0 rfl (by first | (simp only [Nat.zero_add, Nat.add_zero, Nat.reduceAdd]; rfl) | rfl)) rfl rfl rfl H300 ?_
                clear H300; intro a301 H301
                refine plain (y_loadAB rfl z_agg30 z_size30 rfl (by repeat (first | exact Mh | apply Mt)) (q_ld_c4b32c1_0_36 (by assumption)) (q_len_c4b32 (by assumption))) rfl rfl rfl H301 ?_
                clear H301; intro a302 H302
                refine plain (y_fieldB rfl z_field32_0 rfl (by first | (simp only [Nat.zero_add, Nat.add_zero, Nat.reduceAdd]; rfl) | rfl)) rfl rfl rfl H302 ?_
                clear H302; intro a303 H303
                refine plain (y_loadAB rfl z_agg30 z_size30 rfl (by repeat (first | exact Mh | apply Mt)) (q_ld_c4b32c1_0_36 (by assumption)) (q_len_c4b32 (by assumption))) rfl rfl rfl H303 ?_
                clear H303; intro a304 H304
                refine plain (y_teql rfl (by kernel_rfl) rfl rfl (eqr_Bid V.1.bid W.1.bid hvt hx)) rfl rfl rfl H304 ?_
                clear H304; intro a305 H305
                refine plain (y_pick_t rfl rfl rfl) rfl rfl rfl H305 ?_
                clear H305; intro a306 H306
                refine plain (y_move rfl rfl) rfl rfl rfl H306 ?_
                clear H306; intro a307 H307
                have H309 := H307.know (d := 82) (v := .bool true) rfl (congrArg Value.bool (decide_eq_true (hlo.2.1)))
                clear H307
                refine plain (y_fieldB rfl z_field32_1 rfl (by first | (simp only [Nat.zero_add, Nat.add_zero, Nat.reduceAdd]; rfl) | rfl)) rfl rfl rfl H309 ?_
                clear H309; intro a310 H310
                refine plain (y_loadB rfl z_agg3 rfl (by repeat (first | exact Mh | apply Mt)) (q_ix_c4b32c1_36 (by assumption))) rfl rfl rfl H310 ?_
                clear H310; intro a311 H311
                refine plain (y_fieldB rfl z_field32_1 rfl (by first | (simp only [Nat.zero_add, Nat.add_zero, Nat.reduceAdd]; rfl) | rfl)) rfl rfl rfl H311 ?_
                clear H311; intro a312 H312
                refine plain (y_loadB rfl z_agg3 rfl (by repeat (first | exact Mh | apply Mt)) (q_ix_c4b32c1_36 (by assumption))) rfl rfl rfl H312 ?_
                clear H312; intro a313 H313
                refine plain (y_geq rfl rfl rfl) rfl rfl rfl H313 ?_
                clear H313; intro a314 H314
                refine plain (y_pick_t rfl rfl rfl) rfl rfl rfl H314 ?_
                clear H314; intro a315 H315
                refine plain (y_assign rfl rfl) rfl rfl rfl H315 ?_
                clear H315; intro a316 H316
                refine fin ?_
                refine then_n ?_
                refine wp_ret ?_
                -- return 11
                refine ret1 rfl H316 rfl ?_
                first | (exact ⟨_, [], rfl, ⟨rfl, rfl⟩, H316.sep.sub (List.nil_sublist _)⟩) | (exact ⟨_, [], rfl, ⟨congrArg Value.bool (decide_eq_true hlo.2.2), rfl⟩, H316.sep.sub (List.nil_sublist _)⟩)
            · skip
              refine st_alloc rfl z_zeroN32 rfl rfl rfl H88 ?_
              clear H88; intro b317 a317 wx317 H317
              refine hfin (H317.sep.sub (by first | exact S0 | exact S1 | repeat (first | exact S1 | exact S0 | apply S2 | apply S3))) ?_
              refine hgo2 3 5 rfl rfl (by kernel_rfl) ?_ ?_
              · skip
                replace H317 := H317.asRow (b := b88) (size := 36) (m := 0) (by repeat (first | exact Uh | apply Ut)) rfl (by unfold maxLen; omega)
                refine st_append rfl z_slice22 z_notint22 rfl rfl (fun _ => (by repeat (first | exact Uh | apply Ut))) (fun w hs => Src.slice ((rd_old hA (by simp)) w hs) (Auction.bdc_len hw) (Auction.bdc_cell _)) (by unfold maxLen at *; first | omega | (simp only [List.length_cons, List.length_nil, List.length_append, List.length_map]; omega)) (by omega) rfl rfl rfl H317 ?_
                clear H317; intro v318 a318 wx318 hnil318 H318
                obtain ⟨Ar318, cr318, hvr318, hRr318, hmr318⟩ := row_shape (v := v318) H318.sep (by repeat (first | exact Mh | apply Mt))
                subst hvr318
                refine hfin (H318.sep.sub (by first | exact S0 | exact S1 | repeat (first | exact S1 | exact S0 | apply S2 | apply S3))) ?_
                refine hgo 5 rfl (by kernel_rfl) ?_
                refine st_buildSlice rfl Tryd.underlying22 z_size30 z_zero30 rfl rfl rfl (lay_agg (agg_cells _) (Auction.bid_len hxt) (by simp)) rfl rfl rfl H318 ?_
                clear H318; intro b319 a319 wx319 H319
                refine hfin (H319.sep.sub (by first | exact S0 | exact S1 | repeat (first | exact S1 | exact S0 | apply S2 | apply S3))) ?_
                refine hgo 6 rfl (by kernel_rfl) ?_
                refine st_append rfl z_slice22 z_notint22 rfl rfl (fun _ => (by repeat (first | exact Uh | apply Ut))) (fun w hs => Src.slice ((rd_blkA (by repeat (first | exact Mh | apply Mt))) w hs) (Auction.bid_len hxt) (Auction.bid_cell _)) (by unfold maxLen at *; first | omega | (simp only [List.length_cons, List.length_nil, List.length_append, List.length_map]; omega)) (by omega) rfl rfl rfl H319 ?_
                clear H319; intro v320 a320 wx320 hnil320 H320
                obtain ⟨Ar320, cr320, hvr320, hRr320, hmr320⟩ := row_shape (v := v320) H320.sep (by repeat (first | exact Mh | apply Mt))
                subst hvr320
                refine hfin (H320.sep.sub (by first | exact S0 | exact S1 | repeat (first | exact S1 | exact S0 | apply S2 | apply S3))) ?_
                refine hgo 13 rfl (by kernel_rfl) ?_
                refine st_callg rfl z_call13 rfl rfl rfl rfl H320 (hwin2 _ _ _ (by simp) (by rw [Auction.bdc_append, Auction.bdc_one]; exact Rd.ofSep (rd_row (by repeat (first | exact Mh | apply Mt))) H320.sep) (Rd.frm hB H320.sep.frm (by simp)) (hG.frm H320.sep.frm (by simp))) ?_
                clear H320; intro a321 wx321 H321
                refine hfin (H321.sep.sub (by first | exact S0 | exact S1 | repeat (first | exact S1 | exact S0 | apply S2 | apply S3))) ?_
                refine htake 14 rfl (by kernel_rfl) (y_move rfl rfl) rfl rfl rfl (fun _ h => (h.sub (by first | exact S0 | exact S1 | repeat (first | exact S1 | exact S0 | apply S2 | apply S3)))) H321 ?_
                clear H321; intro a322 H322
                refine htake 15 rfl (by kernel_rfl) (y_extract rfl rfl rfl) rfl rfl rfl (fun _ h => (h.sub (by first | exact S0 | exact S1 | repeat (first | exact S1 | exact S0 | apply S2 | apply S3)))) H322 ?_
                clear H322; intro a323 H323
                refine htake 16 rfl (by kernel_rfl) (y_extract rfl rfl rfl) rfl rfl rfl (fun _ h => (h.sub (by first | exact S0 | exact S1 | repeat (first | exact S1 | exact S0 | apply S2 | apply S3)))) H323 ?_
                clear H323; intro a324 H324
                refine hgo 18 rfl (by kernel_rfl) ?_
                refine st_storeN rfl z_size32 rfl rfl (agg_cells _) (by repeat (first | exact Uh | apply Ut)) (q_one_c4b32c1 rfl rfl rfl rfl rfl) (q_len_c4b32c1 (by assumption)) (q_len_c4b32c1 (by assumption)) (q_spl_c4b32c1_0_c4b32c1 (by assumption) (by assumption)) (by decide) rfl rfl H324 ?_
                clear H324; intro wx325 H325
                refine hfin (H325.sep.sub (by first | exact S0 | exact S1 | repeat (first | exact S1 | exact S0 | apply S2 | apply S3))) ?_
                refine htake 19 rfl (by kernel_rfl) (y_assign rfl rfl) rfl rfl rfl (fun _ h => (h.sub (by first | exact S0 | exact S1 | repeat (first | exact S1 | exact S0 | apply S2 | apply S3)))) H325 ?_
                clear H325; intro a326 H326
                refine hdone (by kernel_rfl) ?_
                refine then_n ?_
                refine wp_seq ?_
                refine reg ?_
                refine plain (y_move rfl rfl) rfl rfl rfl H326 ?_
                clear H326; intro a327 H327
                refine plain (y_move rfl rfl) rfl rfl rfl H327 ?_
                clear H327; intro a328 H328
                have H330 := H328.know (d := 75) (v := .bool true) rfl (congrArg Value.bool hlo.1)
                clear H328
                refine plain (y_fieldB rfl z_field32_0 rfl (by first | (simp only [Nat.zero_add, Nat.add_zero, Nat.reduceAdd]; rfl) | rfl)) rfl rfl rfl H330 ?_
                clear H330; intro a331 H331
                refine plain (y_loadAB rfl z_agg30 z_size30 rfl (by repeat (first | exact Mh | apply Mt)) (q_ld_c4b32c1_0_36 (by assumption)) (q_len_c4b32 (by assumption))) rfl rfl rfl H331 ?_
                clear H331; intro a332 H332
                refine plain (y_fieldB rfl z_field32_0 rfl (by first | (simp only [Nat.zero_add, Nat.add_zero, Nat.reduceAdd]; rfl) | rfl)) rfl rfl rfl H332 ?_
                clear H332; intro a333 H333
                refine plain (y_loadAB rfl z_agg30 z_size30 rfl (by repeat (first | exact Mh | apply Mt)) (q_ld_c4b32c1_0_36 (by assumption)) (q_len_c4b32 (by assumption))) rfl rfl rfl H333 ?_
                clear H333; intro a334 H334
                refine plain (y_teql rfl (by kernel_rfl) rfl rfl (eqr_Bid V.1.bid W.1.bid hvt hx)) rfl rfl rfl H334 ?_
                clear H334; intro a335 H335
                refine plain (y_pick_t rfl rfl rfl) rfl rfl rfl H335 ?_
                clear H335; intro a336 H336
                refine plain (y_move rfl rfl) rfl rfl rfl H336 ?_
                clear H336; intro a337 H337
                have H339 := H337.know (d := 82) (v := .bool true) rfl (congrArg Value.bool (decide_eq_true (hlo.2.1)))
                clear H337
                refine plain (y_fieldB rfl z_field32_1 rfl (by first | (simp only [Nat.zero_add, Nat.add_zero, Nat.reduceAdd]; rfl) | rfl)) rfl rfl rfl H339 ?_
                clear H339; intro a340 H340
                refine plain (y_loadB rfl z_agg3 rfl (by repeat (first | exact Mh | apply Mt)) (q_ix_c4b32c1_36 (by assumption))) rfl rfl rfl H340 ?_
                clear H340; intro a341 H341
                refine plain (y_fieldB rfl z_field32_1 rfl (by first | (simp only [Nat.zero_add, Nat.add_zero, Nat.reduceAdd]; rfl) | rfl)) rfl rfl rfl H341 ?_
                clear H341; intro a342 H342
                refine plain (y_loadB rfl z_agg3 rfl (by repeat (first | exact Mh | apply Mt)) (q_ix_c4b32c1_36 (by assumption))) rfl rfl rfl H342 ?_
                clear H342; intro a343 H343
                refine plain (y_geq rfl rfl rfl) rfl rfl rfl H343 ?_
                clear H343; intro a344 H344
                refine plain (y_pick_t rfl rfl rfl) rfl rfl rfl H344 ?_
                clear H344; intro a345 H345
                refine plain (y_assign rfl rfl) rfl rfl rfl H345 ?_
                clear H345; intro a346 H346
                refine fin ?_
                refine then_n ?_
                refine wp_ret ?_
                -- return 12
                refine ret1 rfl H346 rfl ?_
                first | (exact ⟨_, [], rfl, ⟨rfl, rfl⟩, H346.sep.sub (List.nil_sublist _)⟩) | (exact ⟨_, [], rfl, ⟨congrArg Value.bool (decide_eq_true hlo.2.2), rfl⟩, H346.sep.sub (List.nil_sublist _)⟩)
              · skip
                refine st_buildSlice rfl Tryd.underlying22 z_size30 z_zero30 rfl rfl rfl (lay_agg (agg_cells _) (Auction.bid_len hxt) (by simp)) rfl rfl rfl H317 ?_
                clear H317; intro b347 a347 wx347 H347
                refine hfin (H347.sep.sub (by first | exact S0 | exact S1 | repeat (first | exact S1 | exact S0 | apply S2 | apply S3))) ?_
                refine hgo 3 rfl (by kernel_rfl) ?_
                replace H347 := H347.asRow (b := b88) (size := 36) (m := 0) (by repeat (first | exact Uh | apply Ut)) rfl (by unfold maxLen; omega)
                refine st_append rfl z_slice22 z_notint22 rfl rfl (fun _ => (by repeat (first | exact Uh | apply Ut))) (fun w hs => Src.slice ((rd_old hA (by simp)) w hs) (Auction.bdc_len hw) (Auction.bdc_cell _)) (by unfold maxLen at *; first | omega | (simp only [List.length_cons, List.length_nil, List.length_append, List.length_map]; omega)) (by omega) rfl rfl rfl H347 ?_
                clear H347; intro v348 a348 wx348 hnil348 H348
                obtain ⟨Ar348, cr348, hvr348, hRr348, hmr348⟩ := row_shape (v := v348) H348.sep (by repeat (first | exact Mh | apply Mt))
                subst hvr348
                refine hfin (H348.sep.sub (by first | exact S0 | exact S1 | repeat (first | exact S1 | exact S0 | apply S2 | apply S3))) ?_
                refine hgo 6 rfl (by kernel_rfl) ?_
                refine st_append rfl z_slice22 z_notint22 rfl rfl (fun _ => (by repeat (first | exact Uh | apply Ut))) (fun w hs => Src.slice ((rd_blkA (by repeat (first | exact Mh | apply Mt))) w hs) (Auction.bid_len hxt) (Auction.bid_cell _)) (by unfold maxLen at *; first | omega | (simp only [List.length_cons, List.length_nil, List.length_append, List.length_map]; omega)) (by omega) rfl rfl rfl H348 ?_
                clear H348; intro v349 a349 wx349 hnil349 H349
                obtain ⟨Ar349, cr349, hvr349, hRr349, hmr349⟩ := row_shape (v := v349) H349.sep (by repeat (first | exact Mh | apply Mt))
                subst hvr349
                refine hfin (H349.sep.sub (by first | exact S0 | exact S1 | repeat (first | exact S1 | exact S0 | apply S2 | apply S3))) ?_
                refine hgo 13 rfl (by kernel_rfl) ?_
                refine st_callg rfl z_call13 rfl rfl rfl rfl H349 (hwin2 _ _ _ (by simp) (by rw [Auction.bdc_append, Auction.bdc_one]; exact Rd.ofSep (rd_row (by repeat (first | exact Mh | apply Mt))) H349.sep) (Rd.frm hB H349.sep.frm (by simp)) (hG.frm H349.sep.frm (by simp))) ?_
                clear H349; intro a350 wx350 H350
                refine hfin (H350.sep.sub (by first | exact S0 | exact S1 | repeat (first | exact S1 | exact S0 | apply S2 | apply S3))) ?_
                refine htake 14 rfl (by kernel_rfl) (y_move rfl rfl) rfl rfl rfl (fun _ h => (h.sub (by first | exact S0 | exact S1 | repeat (first | exact S1 | exact S0 | apply S2 | apply S3)))) H350 ?_
                clear H350; intro a351 H351
                refine htake 15 rfl (by kernel_rfl) (y_extract rfl rfl rfl) rfl rfl rfl (fun _ h => (h.sub (by first | exact S0 | exact S1 | repeat (first | exact S1 | exact S0 | apply S2 | apply S3)))) H351 ?_
                clear H351; intro a352 H352
                refine htake 16 rfl (by kernel_rfl) (y_extract rfl rfl rfl) rfl rfl rfl (fun _ h => (h.sub (by first | exact S0 | exact S1 | repeat (first | exact S1 | exact S0 | apply S2 | apply S3)))) H352 ?_
                clear H352; intro a353 H353
                refine hgo 18 rfl (by kernel_rfl) ?_
                refine st_storeN rfl z_size32 rfl rfl (agg_cells _) (by repeat (first | exact Uh | apply Ut)) (q_one_c4b32c1 rfl rfl rfl rfl rfl) (q_len_c4b32c1 (by assumption)) (q_len_c4b32c1 (by assumption)) (q_spl_c4b32c1_0_c4b32c1 (by assumption) (by assumption)) (by decide) rfl rfl H353 ?_
                clear H353; intro wx354 H354
                refine hfin (H354.sep.sub (by first | exact S0 | exact S1 | repeat (first | exact S1 | exact S0 | apply S2 | apply S3))) ?_
                refine htake 19 rfl (by kernel_rfl) (y_assign rfl rfl) rfl rfl rfl (fun _ h => (h.sub (by first | exact S0 | exact S1 | repeat (first | exact S1 | exact S0 | apply S2 | apply S3)))) H354 ?_
                clear H354; intro a355 H355
                refine hdone (by kernel_rfl) ?_
                refine then_n ?_
                refine wp_seq ?_
                refine reg ?_
                refine plain (y_move rfl rfl) rfl rfl rfl H355 ?_
                clear H355; intro a356 H356
                refine plain (y_move rfl rfl) rfl rfl rfl H356 ?_
                clear H356; intro a357 H357
                have H359 := H357.know (d := 75) (v := .bool true) rfl (congrArg Value.bool hlo.1)
                clear H357
                refine plain (y_fieldB rfl z_field32_0 rfl (by first | (simp only [Nat.zero_add, Nat.add_zero, Nat.reduceAdd]; rfl) | rfl)) rfl rfl rfl H359 ?_
                clear H359; intro a360 H360
                refine plain (y_loadAB rfl z_agg30 z_size30 rfl (by repeat (first | exact Mh | apply Mt)) (q_ld_c4b32c1_0_36 (by assumption)) (q_len_c4b32 (by assumption))) rfl rfl rfl H360 ?_
                clear H360; intro a361 H361
                refine plain (y_fieldB rfl z_field32_0 rfl (by first | (simp only [Nat.zero_add, Nat.add_zero, Nat.reduceAdd]; rfl) | rfl)) rfl rfl rfl H361 ?_
                clear H361; intro a362 H362
                refine plain (y_loadAB rfl z_agg30 z_size30 rfl (by repeat (first | exact Mh | apply Mt)) (q_ld_c4b32c1_0_36 (by assumption)) (q_len_c4b32 (by assumption))) rfl rfl rfl H362 ?_
                clear H362; intro a363 H363
                refine plain (y_teql rfl (by kernel_rfl) rfl rfl (eqr_Bid V.1.bid W.1.bid hvt hx)) rfl rfl rfl H363 ?_
                clear H363; intro a364 H364
                refine plain (y_pick_t rfl rfl rfl) rfl rfl rfl H364 ?_
                clear H364; intro a365 H365
                refine plain (y_move rfl rfl) rfl rfl rfl H365 ?_
                clear H365; intro a366 H366
                have H368 := H366.know (d := 82) (v := .bool true) rfl (congrArg Value.bool (decide_eq_true (hlo.2.1)))
                clear H366
                refine plain (y_fieldB rfl z_field32_1 rfl (by first | (simp only [Nat.zero_add, Nat.add_zero, Nat.reduceAdd]; rfl) | rfl)) rfl rfl rfl H368 ?_
                clear H368; intro a369 H369
                refine plain (y_loadB rfl z_agg3 rfl (by repeat (first | exact Mh | apply Mt)) (q_ix_c4b32c1_36 (by assumption))) rfl rfl rfl H369 ?_
                clear H369; intro a370 H370
                refine plain (y_fieldB rfl z_field32_1 rfl (by first | (simp only [Nat.zero_add, Nat.add_zero, Nat.reduceAdd]; rfl) | rfl)) rfl rfl rfl H370 ?_
                clear H370; intro a371 H371
                refine plain (y_loadB rfl z_agg3 rfl (by repeat (first | exact Mh | apply Mt)) (q_ix_c4b32c1_36 (by assumption))) rfl rfl rfl H371 ?_
                clear H371; intro a372 H372
                refine plain (y_geq rfl rfl rfl) rfl rfl rfl H372 ?_
                clear H372; intro a373 H373
                refine plain (y_pick_t rfl rfl rfl) rfl rfl rfl H373 ?_
                clear H373; intro a374 H374
                refine plain (y_assign rfl rfl) rfl rfl rfl H374 ?_
                clear H374; intro a375 H375
                refine fin ?_
                refine then_n ?_
                refine wp_ret ?_
                -- return 13
                refine ret1 rfl H375 rfl ?_
                first | (exact ⟨_, [], rfl, ⟨rfl, rfl⟩, H375.sep.sub (List.nil_sublist _)⟩) | (exact ⟨_, [], rfl, ⟨congrArg Value.bool (decide_eq_true hlo.2.2), rfl⟩, H375.sep.sub (List.nil_sublist _)⟩)
          · skip
            refine st_buildSlice rfl Tryd.underlying22 z_size30 z_zero30 rfl rfl rfl (lay_agg (agg_cells _) (Auction.bid_len hxt) (by simp)) rfl rfl rfl H87 ?_
            clear H87; intro b376 a376 wx376 H376
            refine hfin (H376.sep.sub (by first | exact S0 | exact S1 | repeat (first | exact S1 | exact S0 | apply S2 | apply S3))) ?_
            refine hgo2 0 17 rfl rfl (by kernel_rfl) ?_ ?_
            · skip
              refine st_buildSlice rfl Tryd.underlying22 z_size30 z_zero30 rfl rfl rfl rfl rfl rfl rfl H376 ?_
              clear H376; intro b377 a377 wx377 H377
              refine hfin (H377.sep.sub (by first | exact S0 | exact S1 | repeat (first | exact S1 | exact S0 | apply S2 | apply S3))) ?_
              refine hgo2 3 17 rfl rfl (by kernel_rfl) ?_ ?_
              · skip
                replace H377 := H377.asRow (b := b377) (size := 36) (m := 0) (by repeat (first | exact Uh | apply Ut)) rfl (by unfold maxLen; omega)
                refine st_append rfl z_slice22 z_notint22 rfl rfl (fun _ => (by repeat (first | exact Uh | apply Ut))) (fun w hs => Src.slice ((rd_old hA (by simp)) w hs) (Auction.bdc_len hw) (Auction.bdc_cell _)) (by unfold maxLen at *; first | omega | (simp only [List.length_cons, List.length_nil, List.length_append, List.length_map]; omega)) (by omega) rfl rfl rfl H377 ?_
                clear H377; intro v378 a378 wx378 hnil378 H378
                obtain ⟨Ar378, cr378, hvr378, hRr378, hmr378⟩ := row_shape (v := v378) H378.sep (by repeat (first | exact Mh | apply Mt))
                subst hvr378
                refine hfin (H378.sep.sub (by first | exact S0 | exact S1 | repeat (first | exact S1 | exact S0 | apply S2 | apply S3))) ?_
                refine hgo2 6 17 rfl rfl (by kernel_rfl) ?_ ?_
                · skip
                  refine st_append rfl z_slice22 z_notint22 rfl rfl (fun _ => (by repeat (first | exact Uh | apply Ut))) (fun w hs => Src.slice ((rd_blkA (by repeat (first | exact Mh | apply Mt))) w hs) (Auction.bid_len hxt) (Auction.bid_cell _)) (by unfold maxLen at *; first | omega | (simp only [List.length_cons, List.length_nil, List.length_append, List.length_map]; omega)) (by omega) rfl rfl rfl H378 ?_
                  clear H378; intro v379 a379 wx379 hnil379 H379
                  obtain ⟨Ar379, cr379, hvr379, hRr379, hmr379⟩ := row_shape (v := v379) H379.sep (by repeat (first | exact Mh | apply Mt))
                  subst hvr379
                  refine hfin (H379.sep.sub (by first | exact S0 | exact S1 | repeat (first | exact S1 | exact S0 | apply S2 | apply S3))) ?_
                  refine hgo2 13 17 rfl rfl (by kernel_rfl) ?_ ?_
                  · skip
                    refine st_callg rfl z_call13 rfl rfl rfl rfl H379 (hwin2 _ _ _ (by simp) (by rw [Auction.bdc_append, Auction.bdc_one]; exact Rd.ofSep (rd_row (by repeat (first | exact Mh | apply Mt))) H379.sep) (Rd.frm hB H379.sep.frm (by simp)) (hG.frm H379.sep.frm (by simp))) ?_
                    clear H379; intro a380 wx380 H380
                    refine hfin (H380.sep.sub (by first | exact S0 | exact S1 | repeat (first | exact S1 | exact S0 | apply S2 | apply S3))) ?_
                    refine htake 14 rfl (by kernel_rfl) (y_move rfl rfl) rfl rfl rfl (fun _ h => (h.sub (by first | exact S0 | exact S1 | repeat (first | exact S1 | exact S0 | apply S2 | apply S3)))) H380 ?_
                    clear H380; intro a381 H381
                    refine htake 15 rfl (by kernel_rfl) (y_extract rfl rfl rfl) rfl rfl rfl (fun _ h => (h.sub (by first | exact S0 | exact S1 | repeat (first | exact S1 | exact S0 | apply S2 | apply S3)))) H381 ?_
                    clear H381; intro a382 H382
                    refine htake 16 rfl (by kernel_rfl) (y_extract rfl rfl rfl) rfl rfl rfl (fun _ h => (h.sub (by first | exact S0 | exact S1 | repeat (first | exact S1 | exact S0 | apply S2 | apply S3)))) H382 ?_
                    clear H382; intro a383 H383
                    refine hgo 17 rfl (by kernel_rfl) ?_
                    refine st_alloc rfl z_zeroN32 rfl rfl rfl H383 ?_
                    clear H383; intro b384 a384 wx384 H384
                    refine hfin (H384.sep.sub (by first | exact S0 | exact S1 | repeat (first | exact S1 | exact S0 | apply S2 | apply S3))) ?_
                    refine hgo 18 rfl (by kernel_rfl) ?_
                    refine st_storeN rfl z_size32 rfl rfl (agg_cells _) (by repeat (first | exact Uh | apply Ut)) (q_one_c4b32c1 rfl rfl rfl rfl rfl) (q_len_c4b32c1 (by assumption)) (q_len_c4b32c1 (by assumption)) (q_spl_c4b32c1_0_c4b32c1 (by assumption) (by assumption)) (by decide) rfl rfl H384 ?_
                    clear H384; intro wx385 H385
                    refine hfin (H385.sep.sub (by first | exact S0 | exact S1 | repeat (first | exact S1 | exact S0 | apply S2 | apply S3))) ?_
                    refine htake 19 rfl (by kernel_rfl) (y_assign rfl rfl) rfl rfl rfl (fun _ h => (h.sub (by first | exact S0 | exact S1 | repeat (first | exact S1 | exact S0 | apply S2 | apply S3)))) H385 ?_
                    clear H385; intro a386 H386
                    refine hdone (by kernel_rfl) ?_
                    refine then_n ?_
                    refine wp_seq ?_
                    refine reg ?_
                    refine plain (y_move rfl rfl) rfl rfl rfl H386 ?_
                    clear H386; intro a387 H387
                    refine plain (y_move rfl rfl) rfl rfl rfl H387 ?_
                    clear H387; intro a388 H388
                    have H390 := H388.know (d := 75) (v := .bool true) rfl (congrArg Value.bool hlo.1)
                    clear H388
                    refine plain (y_fieldB rfl z_field32_0 rfl (by first | (simp only [Nat.zero_add, Nat.add_zero, Nat.reduceAdd]; rfl) | rfl)) rfl rfl rfl H390 ?_
                    clear H390; intro a391 H391
                    refine plain (y_loadAB rfl z_agg30 z_size30 rfl (by repeat (first | exact Mh | apply Mt)) (q_ld_c4b32c1_0_36 (by assumption)) (q_len_c4b32 (by assumption))) rfl rfl rfl H391 ?_
                    clear H391; intro a392 H392
                    refine plain (y_fieldB rfl z_field32_0 rfl (by first | (simp only [Nat.zero_add, Nat.add_zero, Nat.reduceAdd]; rfl) | rfl)) rfl rfl rfl H392 ?_
                    clear H392; intro a393 H393
                    refine plain (y_loadAB rfl z_agg30 z_size30 rfl (by repeat (first | exact Mh | apply Mt)) (q_ld_c4b32c1_0_36 (by assumption)) (q_len_c4b32 (by assumption))) rfl rfl rfl H393 ?_
                    clear H393; intro a394 H394
                    refine plain (y_teql rfl (by kernel_rfl) rfl rfl (eqr_Bid V.1.bid W.1.bid hvt hx)) rfl rfl rfl H394 ?_
                    clear H394; intro a395 H395
                    refine plain (y_pick_t rfl rfl rfl) rfl rfl rfl H395 ?_
                    clear H395; intro a396 H396
                    refine plain (y_move rfl rfl) rfl rfl rfl H396 ?_
                    clear H396; intro a397 H397
                    have H399 := H397.know (d := 82) (v := .bool true) rfl (congrArg Value.bool (decide_eq_true (hlo.2.1)))
                    clear H397
                    refine plain (y_fieldB rfl z_field32_1 rfl (by first | (simp only [Nat.zero_add, Nat.add_zero, Nat.reduceAdd]; rfl) | rfl)) rfl rfl rfl H399 ?_
                    clear H399; intro a400 H400
                    refine plain (y_loadB rfl z_agg3 rfl (by repeat (first | exact Mh | apply Mt)) (q_ix_c4b32c1_36 (by assumption))) rfl rfl rfl H400 ?_
                    clear H400; intro a401 H401
                    refine plain (y_fieldB rfl z_field32_1 rfl (by first | (simp only [Nat.zero_add, Nat.add_zero, Nat.reduceAdd]; rfl) | rfl)) rfl rfl rfl H401 ?_
                    clear H401; intro a402 H402
                    refine plain (y_loadB rfl z_agg3 rfl (by repeat (first | exact Mh | apply Mt)) (q_ix_c4b32c1_36 (by assumption))) rfl rfl rfl H402 ?_
                    clear H402; intro a403 H403
                    refine plain (y_geq rfl rfl rfl) rfl rfl rfl H403 ?_
                    clear H403; intro a404 H404
                    refine plain (y_pick_t rfl rfl rfl) rfl rfl rfl H404 ?_
                    clear H404; intro a405 H405
                    refine plain (y_assign rfl rfl) rfl rfl rfl H405 ?_
                    clear H405; intro a406 H406
                    refine fin ?_
                    refine then_n ?_
                    refine wp_ret ?_
                    -- return 14
                    refine ret1 rfl H406 rfl ?_
                    first | (exact ⟨_, [], rfl, ⟨rfl, rfl⟩, H406.sep.sub (List.nil_sublist _)⟩) | (exact ⟨_, [], rfl, ⟨congrArg Value.bool (decide_eq_true hlo.2.2), rfl⟩, H406.sep.sub (List.nil_sublist _)⟩)
                  · skip
                    refine st_alloc rfl z_zeroN32 rfl rfl rfl H379 ?_
                    clear H379; intro b407 a407 wx407 H407
                    refine hfin (H407.sep.sub (by first | exact S0 | exact S1 | repeat (first | exact S1 | exact S0 | apply S2 | apply S3))) ?_
                    refine hgo 13 rfl (by kernel_rfl) ?_
                    refine st_callg rfl z_call13 rfl rfl rfl rfl H407 (hwin2 _ _ _ (by simp) (by rw [Auction.bdc_append, Auction.bdc_one]; exact Rd.ofSep (rd_row (by repeat (first | exact Mh | apply Mt))) H407.sep) (Rd.frm hB H407.sep.frm (by simp)) (hG.frm H407.sep.frm (by simp))) ?_
                    clear H407; intro a408 wx408 H408
                    refine hfin (H408.sep.sub (by first | exact S0 | exact S1 | repeat (first | exact S1 | exact S0 | apply S2 | apply S3))) ?_
                    refine htake 14 rfl (by kernel_rfl) (y_move rfl rfl) rfl rfl rfl (fun _ h => (h.sub (by first | exact S0 | exact S1 | repeat (first | exact S1 | exact S0 | apply S2 | apply S3)))) H408 ?_
                    clear H408; intro a409 H409
                    refine htake 15 rfl (by kernel_rfl) (y_extract rfl rfl rfl) rfl rfl rfl (fun _ h => (h.sub (by first | exact S0 | exact S1 | repeat (first | exact S1 | exact S0 | apply S2 | apply S3)))) H409 ?_
                    clear H409; intro a410 H410
                    refine htake 16 rfl (by kernel_rfl) (y_extract rfl rfl rfl) rfl rfl rfl (fun _ h => (h.sub (by first | exact S0 | exact S1 | repeat (first | exact S1 | exact S0 | apply S2 | apply S3)))) H410 ?_
                    clear H410; intro a411 H411
                    refine hgo 18 rfl (by kernel_rfl) ?_
                    refine st_storeN rfl z_size32 rfl rfl (agg_cells _) (by repeat (first | exact Uh | apply Ut)) (q_one_c4b32c1 rfl rfl rfl rfl rfl) (q_len_c4b32c1 (by assumption)) (q_len_c4b32c1 (by assumption)) (q_spl_c4b32c1_0_c4b32c1 (by assumption) (by assumption)) (by decide) rfl rfl H411 ?_
                    clear H411; intro wx412 H412
                    refine hfin (H412.sep.sub (by first | exact S0 | exact S1 | repeat (first | exact S1 | exact S0 | apply S2 | apply S3))) ?_
                    refine htake 19 rfl (by kernel_rfl) (y_assign rfl rfl) rfl rfl rfl (fun _ h => (h.sub (by first | exact S0 | exact S1 | repeat (first | exact S1 | exact S0 | apply S2 | apply S3)))) H412 ?_
                    clear H412; intro a413 H413
                    refine hdone (by kernel_rfl) ?_
                    refine then_n ?_
                    refine wp_seq ?_
                    refine reg ?_
                    refine plain (y_move rfl rfl) rfl rfl rfl H413 ?_
                    clear H413; intro a414 H414
                    refine plain (y_move rfl rfl) rfl rfl rfl H414 ?_
                    clear H414; intro a415 H415
                    have H417 := H415.know (d := 75) (v := .bool true) rfl (congrArg Value.bool hlo.1)
                    clear H415
                    refine plain (y_fieldB rfl z_field32_0 rfl (by first | (simp only [Nat.zero_add, Nat.add_zero, Nat.reduceAdd]; rfl) | rfl)) rfl rfl rfl H417 ?_
                    clear H417; intro a418 H418
                    refine plain (y_loadAB rfl z_agg30 z_size30 rfl (by repeat (first | exact Mh | apply Mt)) (q_ld_c4b32c1_0_36 (by assumption)) (q_len_c4b32 (by assumption))) rfl rfl rfl H418 ?_
                    clear H418; intro a419 H419
                    refine plain (y_fieldB rfl z_field32_0 rfl (by first | (simp only [Nat.zero_add, Nat.add_zero, Nat.reduceAdd]; rfl) | rfl)) rfl rfl rfl H419 ?_
                    clear H419; intro a420 H420
                    refine plain (y_loadAB rfl z_agg30 z_size30 rfl (by repeat (first | exact Mh | apply Mt)) (q_ld_c4b32c1_0_36 (by assumption)) (q_len_c4b32 (by assumption))) rfl rfl rfl H420 ?_
                    clear H420; intro a421 H421
                    refine plain (y_teql rfl (by kernel_rfl) rfl rfl (eqr_Bid V.1.bid W.1.bid hvt hx)) rfl rfl rfl H421 ?_
                    clear H421; intro a422 H422
                    refine plain (y_pick_t rfl rfl rfl) rfl rfl rfl H422 ?_
                    clear H422; intro a423 H423
                    refine plain (y_move rfl rfl) rfl rfl rfl H423 ?_
                    clear H423; intro a424 H424
                    have H426 := H424.know (d := 82) (v := .bool true) rfl (congrArg Value.bool (decide_eq_true (hlo.2.1)))
                    clear H424
                    refine plain (y_fieldB rfl z_field32_1 rfl (by first | (simp only [Nat.zero_add, Nat.add_zero, Nat.reduceAdd]; rfl) | rfl)) rfl rfl rfl H426 ?_
                    clear H426; intro a427 H427
                    refine plain (y_loadB rfl z_agg3 rfl (by repeat (first | exact Mh | apply Mt)) (q_ix_c4b32c1_36 (by assumption))) rfl rfl rfl H427 ?_
                    clear H427; intro a428 H428
                    refine plain (y_fieldB rfl z_field32_1 rfl (by first | (simp only [Nat.zero_add, Nat.add_zero, Nat.reduceAdd]; rfl) | rfl)) rfl rfl rfl H428 ?_
                    clear H428; intro a429 H429
                    refine plain (y_loadB rfl z_agg3 rfl (by repeat (first | exact Mh | apply Mt)) (q_ix_c4b32c1_36 (by assumption))) rfl rfl rfl H429 ?_
                    clear H429; intro a430 H430
                    refine plain (y_geq rfl rfl rfl) rfl rfl rfl H430 ?_
                    clear H430; intro a431 H431
                    refine plain (y_pick_t rfl rfl rfl) rfl rfl rfl H431 ?_
                    clear H431; intro a432 H432
                    refine plain (y_assign rfl rfl) rfl rfl rfl H432 ?_
                    clear H432; intro a433 H433
                    refine fin ?_
                    refine then_n ?_
                    refine wp_ret ?_
                    -- return 15
                    refine ret1 rfl H433 rfl ?_
                    first | (exact ⟨_, [], rfl, ⟨rfl, rfl⟩, H433.sep.sub (List.nil_sublist _)⟩) | (exact ⟨_, [], rfl, ⟨congrArg Value.bool (decide_eq_true hlo.2.2), rfl⟩, H433.sep.sub (List.nil_sublist _)⟩)
                · skip
                  refine st_alloc rfl z_zeroN32 rfl rfl rfl H378 ?_
                  clear H378; intro b434 a434 wx434 H434
                  refine hfin (H434.sep.sub (by first | exact S0 | exact S1 | repeat (first | exact S1 | exact S0 | apply S2 | apply S3))) ?_
                  refine hgo 6 rfl (by kernel_rfl) ?_
                  refine st_append rfl z_slice22 z_notint22 rfl rfl (fun _ => (by repeat (first | exact Uh | apply Ut))) (fun w hs => Src.slice ((rd_blkA (by repeat (first | exact Mh | apply Mt))) w hs) (Auction.bid_len hxt) (Auction.bid_cell _)) (by unfold maxLen at *; first | omega | (simp only [List.length_cons, List.length_nil, List.length_append, List.length_map]; omega)) (by omega) rfl rfl rfl H434 ?_
                  clear H434; intro v435 a435 wx435 hnil435 H435
                  obtain ⟨Ar435, cr435, hvr435, hRr435, hmr435⟩ := row_shape (v := v435) H435.sep (by repeat (first | exact Mh | apply Mt))
                  subst hvr435
                  refine hfin (H435.sep.sub (by first | exact S0 | exact S1 | repeat (first | exact S1 | exact S0 | apply S2 | apply S3))) ?_
                  refine hgo 13 rfl (by kernel_rfl) ?_
                  refine st_callg rfl z_call13 rfl rfl rfl rfl H435 (hwin2 _ _ _ (by simp) (by rw [Auction.bdc_append, Auction.bdc_one]; exact Rd.ofSep (rd_row (by repeat (first | exact Mh | apply Mt))) H435.sep) (Rd.frm hB H435.sep.frm (by simp)) (hG.frm H435.sep.frm (by simp))) ?_
                  clear H435; intro a436 wx436 H436
                  refine hfin (H436.sep.sub (by first | exact S0 | exact S1 | repeat (first | exact S1 | exact S0 | apply S2 | apply S3))) ?_
                  refine htake 14 rfl (by kernel_rfl) (y_move rfl rfl) rfl rfl rfl (fun _ h => (h.sub (by first | exact S0 | exact S1 | repeat (first | exact S1 | exact S0 | apply S2 | apply S3)))) H436 ?_
                  clear H436; intro a437 H437
                  refine htake 15 rfl (by kernel_rfl) (y_extract rfl rfl rfl) rfl rfl rfl (fun _ h => (h.sub (by first | exact S0 | exact S1 | repeat (first | exact S1 | exact S0 | apply S2 | apply S3)))) H437 ?_
                  clear H437; intro a438 H438
                  refine htake 16 rfl (by kernel_rfl) (y_extract rfl rfl rfl) rfl rfl rfl (fun _ h => (h.sub (by first | exact S0 | exact S1 | repeat (first | exact S1 | exact S0 | apply S2 | apply S3)))) H438 ?_
                  clear H438; intro a439 H439
                  refine hgo 18 rfl (by kernel_rfl) ?_
                  refine st_storeN rfl z_size32 rfl rfl (agg_cells _) (by repeat (first | exact Uh | apply Ut)) (q_one_c4b32c1 rfl rfl rfl rfl rfl) (q_len_c4b32c1 (by assumption)) (q_len_c4b32c1 (by assumption)) (q_spl_c4b32c1_0_c4b32c1 (by assumption) (by assumption)) (by decide) rfl rfl H439 ?_
                  clear H439; intro wx440 H440
                  refine hfin (H440.sep.sub (by first | exact S0 | exact S1 | repeat (first | exact S1 | exact S0 | apply S2 | apply S3))) ?_
                  refine htake 19 rfl (by kernel_rfl) (y_assign rfl rfl) rfl rfl rfl (fun _ h => (h.sub (by first | exact S0 | exact S1 | repeat (first | exact S1 | exact S0 | apply S2 | apply S3)))) H440 ?_
                  clear H440; intro a441 H441
                  refine hdone (by kernel_rfl) ?_
                  refine then_n ?_
                  refine wp_seq ?_
                  refine reg ?_
                  refine plain (y_move rfl rfl) rfl rfl rfl H441 ?_
                  clear H441; intro a442 H442
                  refine plain (y_move rfl rfl) rfl rfl rfl H442 ?_
                  clear H442; intro a443 H443
                  have H445 := H443.know (d := 75) (v := .bool true) rfl (congrArg Value.bool hlo.1)
                  clear H443
                  refine plain (y_fieldB rfl z_field32_0 rfl (by first | (simp only [Nat.zero_add, Nat.add_zero, Nat.reduceAdd]; rfl) | rfl)) rfl rfl rfl H445 ?_
                  clear H445; intro a446 H446
                  refine plain (y_loadAB rfl z_agg30 z_size30 rfl (by repeat (first | exact Mh | apply Mt)) (q_ld_c4b32c1_0_36 (by assumption)) (q_len_c4b32 (by assumption))) rfl rfl rfl H446 ?_
                  clear H446; intro a447 H447
                  refine plain (y_fieldB rfl z_field32_0 rfl (by first | (simp only [Nat.zero_add, Nat.add_zero, Nat.reduceAdd]; rfl) | rfl)) rfl rfl rfl H447 ?_
                  clear H447; intro a448 H448
                  refine plain (y_loadAB rfl z_agg30 z_size30 rfl (by repeat (first | exact Mh | apply Mt)) (q_ld_c4b32c1_0_36 (by assumption)) (q_len_c4b32 (by assumption))) rfl rfl rfl H448 ?_
                  clear H448; intro a449 H449
                  refine plain (y_teql rfl (by kernel_rfl) rfl rfl (eqr_Bid V.1.bid W.1.bid hvt hx)) rfl rfl rfl H449 ?_
                  clear H449; intro a450 H450
                  refine plain (y_pick_t rfl rfl rfl) rfl rfl rfl H450 ?_
                  clear H450; intro a451 H451
                  refine plain (y_move rfl rfl) rfl rfl rfl H451 ?_
                  clear H451; intro a452 H452
                  have H454 := H452.know (d := 82) (v := .bool true) rfl (congrArg Value.bool (decide_eq_true (hlo.2.1)))
                  clear H452
                  refine plain (y_fieldB rfl z_field32_1 rfl (by first | (simp only [Nat.zero_add, Nat.add_zero, Nat.reduceAdd]; rfl) | rfl)) rfl rfl rfl H454 ?_
                  clear H454; intro a455 H455
                  refine plain (y_loadB rfl z_agg3 rfl (by repeat (first | exact Mh | apply Mt)) (q_ix_c4b32c1_36 (by assumption))) rfl rfl rfl H455 ?_
                  clear H455; intro a456 H456
                  refine plain (y_fieldB rfl z_field32_1 rfl (by first | (simp only [Nat.zero_add, Nat.add_zero, Nat.reduceAdd]; rfl) | rfl)) rfl rfl rfl H456 ?_
                  clear H456; intro a457 H457
                  refine plain (y_loadB rfl z_agg3 rfl (by repeat (first | exact Mh | apply Mt)) (q_ix_c4b32c1_36 (by assumption))) rfl rfl rfl H457 ?_
                  clear H457; intro a458 H458
                  refine plain (y_geq rfl rfl rfl) rfl rfl rfl H458 ?_
                  clear H458; intro a459 H459
                  refine plain (y_pick_t rfl rfl rfl) rfl rfl rfl H459 ?_
                  clear H459; intro a460 H460
                  refine plain (y_assign rfl rfl) rfl rfl rfl H460 ?_
                  clear H460; intro a461 H461
                  refine fin ?_
                  refine then_n ?_
                  refine wp_ret ?_
                  -- return 16
                  refine ret1 rfl H461 rfl ?_
                  first | (exact ⟨_, [], rfl, ⟨rfl, rfl⟩, H461.sep.sub (List.nil_sublist _)⟩) | (exact ⟨_, [], rfl, ⟨congrArg Value.bool (decide_eq_true hlo.2.2), rfl⟩, H461.sep.sub (List.nil_sublist _)⟩)
              · skip
                refine st_alloc rfl z_zeroN32 rfl rfl rfl H377 ?_
                clear H377; intro b462 a462 wx462 H462
                refine hfin (H462.sep.sub (by first | exact S0 | exact S1 | repeat (first | exact S1 | exact S0 | apply S2 | apply S3))) ?_
                refine hgo 3 rfl (by kernel_rfl) ?_
                replace H462 := H462.asRow (b := b377) (size := 36) (m := 0) (by repeat (first | exact Uh | apply Ut)) rfl (by unfold maxLen; omega)
                refine st_append rfl z_slice22 z_notint22 rfl rfl (fun _ => (by repeat (first | exact Uh | apply Ut))) (fun w hs => Src.slice ((rd_old hA (by simp)) w hs) (Auction.bdc_len hw) (Auction.bdc_cell _)) (by unfold maxLen at *; first | omega | (simp only [List.length_cons, List.length_nil, List.length_append, List.length_map]; omega)) (by omega) rfl rfl rfl H462 ?_
                clear H462; intro v463 a463 wx463 hnil463 H463
                obtain ⟨Ar463, cr463, hvr463, hRr463, hmr463⟩ := row_shape (v := v463) H463.sep (by repeat (first | exact Mh | apply Mt))
                subst hvr463
                refine hfin (H463.sep.sub (by first | exact S0 | exact S1 | repeat (first | exact S1 | exact S0 | apply S2 | apply S3))) ?_
                refine hgo 6 rfl (by kernel_rfl) ?_
                refine st_append rfl z_slice22 z_notint22 rfl rfl (fun _ => (by repeat (first | exact Uh | apply Ut))) (fun w hs => Src.slice ((rd_blkA (by repeat (first | exact Mh | apply Mt))) w hs) (Auction.bid_len hxt) (Auction.bid_cell _)) (by unfold maxLen at *; first | omega | (simp only [List.length_cons, List.length_nil, List.length_append, List.length_map]; omega)) (by omega) rfl rfl rfl H463 ?_
                clear H463; intro v464 a464 wx464 hnil464 H464
                obtain ⟨Ar464, cr464, hvr464, hRr464, hmr464⟩ := row_shape (v := v464) H464.sep (by repeat (first | exact Mh | apply Mt))
                subst hvr464
                refine hfin (H464.sep.sub (by first | exact S0 | exact S1 | repeat (first | exact S1 | exact S0 | apply S2 | apply S3))) ?_
                refine hgo 13 rfl (by kernel_rfl) ?_
                refine st_callg rfl z_call13 rfl rfl rfl rfl H464 (hwin2 _ _ _ (by simp) (by rw [Auction.bdc_append, Auction.bdc_one]; exact Rd.ofSep (rd_row (by repeat (first | exact Mh | apply Mt))) H464.sep) (Rd.frm hB H464.sep.frm (by simp)) (hG.frm H464.sep.frm (by simp))) ?_
                clear H464; intro a465 wx465 H465
                refine hfin (H465.sep.sub (by first | exact S0 | exact S1 | repeat (first | exact S1 | exact S0 | apply S2 | apply S3))) ?_
                refine htake 14 rfl (by kernel_rfl) (y_move rfl rfl) rfl rfl rfl (fun _ h => (h.sub (by first | exact S0 | exact S1 | repeat (first | exact S1 | exact S0 | apply S2 | apply S3)))) H465 ?_
                clear H465; intro a466 H466
                refine htake 15 rfl (by kernel_rfl) (y_extract rfl rfl rfl) rfl rfl rfl (fun _ h => (h.sub (by first | exact S0 | exact S1 | repeat (first | exact S1 | exact S0 | apply S2 | apply S3)))) H466 ?_
                clear H466; intro a467 H467
                refine htake 16 rfl (by kernel_rfl) (y_extract rfl rfl rfl) rfl rfl rfl (fun _ h => (h.sub (by first | exact S0 | exact S1 | repeat (first | exact S1 | exact S0 | apply S2 | apply S3)))) H467 ?_
                clear H467; intro a468 H468
                refine hgo 18 rfl (by kernel_rfl) ?_
                refine st_storeN rfl z_size32 rfl rfl (agg_cells _) (by repeat (first | exact Uh | apply Ut)) (q_one_c4b32c1 rfl rfl rfl rfl rfl) (q_len_c4b32c1 (by assumption)) (q_len_c4b32c1 (by assumption)) (q_spl_c4b32c1_0_c4b32c1 (by assumption) (by assumption)) (by decide) rfl rfl H468 ?_
                clear H468; intro wx469 H469
                refine hfin (H469.sep.sub (by first | exact S0 | exact S1 | repeat (first | exact S1 | exact S0 | apply S2 | apply S3))) ?_
                refine htake 19 rfl (by kernel_rfl) (y_assign rfl rfl) rfl rfl rfl (fun _ h => (h.sub (by first | exact S0 | exact S1 | repeat (first | exact S1 | exact S0 | apply S2 | apply S3)))) H469 ?_
                clear H469; intro a470 H470
                refine hdone (by kernel_rfl) ?_
                refine then_n ?_
                refine wp_seq ?_
                refine reg ?_
                refine plain (y_move rfl rfl) rfl rfl rfl H470 ?_
                clear H470; intro a471 H471
                refine plain (y_move rfl rfl) rfl rfl rfl H471 ?_
                clear H471; intro a472 H472
                have H474 := H472.know (d := 75) (v := .bool true) rfl (congrArg Value.bool hlo.1)
                clear H472
                refine plain (y_fieldB rfl z_field32_0 rfl (by first | (simp only [Nat.zero_add, Nat.add_zero, Nat.reduceAdd]; rfl) | rfl)) rfl rfl rfl H474 ?_
                clear H474; intro a475 H475
                refine plain (y_loadAB rfl z_agg30 z_size30 rfl (by repeat (first | exact Mh | apply Mt)) (q_ld_c4b32c1_0_36 (by assumption)) (q_len_c4b32 (by assumption))) rfl rfl rfl H475 ?_
                clear H475; intro a476 H476
                refine plain (y_fieldB rfl z_field32_0 rfl (by first | (simp only [Nat.zero_add, Nat.add_zero, Nat.reduceAdd]; rfl) | rfl)) rfl rfl rfl H476 ?_
                clear H476; intro a477 H477
                refine plain (y_loadAB rfl z_agg30 z_size30 rfl (by repeat (first | exact Mh | apply Mt)) (q_ld_c4b32c1_0_36 (by assumption)) (q_len_c4b32 (by assumption))) rfl rfl rfl H477 ?_
                clear H477; intro a478 H478
                refine plain (y_teql rfl (by kernel_rfl) rfl rfl (eqr_Bid V.1.bid W.1.bid hvt hx)) rfl rfl rfl H478 ?_
                clear H478; intro a479 H479
                refine plain (y_pick_t rfl rfl rfl) rfl rfl rfl H479 ?_
                clear H479; intro a480 H480
                refine plain (y_move rfl rfl) rfl rfl rfl H480 ?_
                clear H480; intro a481 H481
                have H483 := H481.know (d := 82) (v := .bool true) rfl (congrArg Value.bool (decide_eq_true (hlo.2.1)))
                clear H481
                refine plain (y_fieldB rfl z_field32_1 rfl (by first | (simp only [Nat.zero_add, Nat.add_zero, Nat.reduceAdd]; rfl) | rfl)) rfl rfl rfl H483 ?_
                clear H483; intro a484 H484
                refine plain (y_loadB rfl z_agg3 rfl (by repeat (first | exact Mh | apply Mt)) (q_ix_c4b32c1_36 (by assumption))) rfl rfl rfl H484 ?_
                clear H484; intro a485 H485
                refine plain (y_fieldB rfl z_field32_1 rfl (by first | (simp only [Nat.zero_add, Nat.add_zero, Nat.reduceAdd]; rfl) | rfl)) rfl rfl rfl H485 ?_
                clear H485; intro a486 H486
                refine plain (y_loadB rfl z_agg3 rfl (by repeat (first | exact Mh | apply Mt)) (q_ix_c4b32c1_36 (by assumption))) rfl rfl rfl H486 ?_
                clear H486; intro a487 H487
                refine plain (y_geq rfl rfl rfl) rfl rfl rfl H487 ?_
                clear H487; intro a488 H488
                refine plain (y_pick_t rfl rfl rfl) rfl rfl rfl H488 ?_
                clear H488; intro a489 H489
                refine plain (y_assign rfl rfl) rfl rfl rfl H489 ?_
                clear H489; intro a490 H490
                refine fin ?_
                refine then_n ?_
                refine wp_ret ?_
                -- return 17
                refine ret1 rfl H490 rfl ?_
                first | (exact ⟨_, [], rfl, ⟨rfl, rfl⟩, H490.sep.sub (List.nil_sublist _)⟩) | (exact ⟨_, [], rfl, ⟨congrArg Value.bool (decide_eq_true hlo.2.2), rfl⟩, H490.sep.sub (List.nil_sublist _)⟩)
            · skip
              refine st_alloc rfl z_zeroN32 rfl rfl rfl H376 ?_
              clear H376; intro b491 a491 wx491 H491
              refine hfin (H491.sep.sub (by first | exact S0 | exact S1 | repeat (first | exact S1 | exact S0 | apply S2 | apply S3))) ?_
              refine hgo 0 rfl (by kernel_rfl) ?_
              refine st_buildSlice rfl Tryd.underlying22 z_size30 z_zero30 rfl rfl rfl rfl rfl rfl rfl H491 ?_
              clear H491; intro b492 a492 wx492 H492
              refine hfin (H492.sep.sub (by first | exact S0 | exact S1 | repeat (first | exact S1 | exact S0 | apply S2 | apply S3))) ?_
              refine hgo 3 rfl (by kernel_rfl) ?_
              replace H492 := H492.asRow (b := b492) (size := 36) (m := 0) (by repeat (first | exact Uh | apply Ut)) rfl (by unfold maxLen; omega)
              refine st_append rfl z_slice22 z_notint22 rfl rfl (fun _ => (by repeat (first | exact Uh | apply Ut))) (fun w hs => Src.slice ((rd_old hA (by simp)) w hs) (Auction.bdc_len hw) (Auction.bdc_cell _)) (by unfold maxLen at *; first | omega | (simp only [List.length_cons, List.length_nil, List.length_append, List.length_map]; omega)) (by omega) rfl rfl rfl H492 ?_
              clear H492; intro v493 a493 wx493 hnil493 H493
              obtain ⟨Ar493, cr493, hvr493, hRr493, hmr493⟩ := row_shape (v := v493) H493.sep (by repeat (first | exact Mh | apply Mt))
              subst hvr493
              refine hfin (H493.sep.sub (by first | exact S0 | exact S1 | repeat (first | exact S1 | exact S0 | apply S2 | apply S3))) ?_
              refine hgo 6 rfl (by kernel_rfl) ?_
              refine st_append rfl z_slice22 z_notint22 rfl rfl (fun _ => (by repeat (first | exact Uh | apply Ut))) (fun w hs => Src.slice ((rd_blkA (by repeat (first | exact Mh | apply Mt))) w hs) (Auction.bid_len hxt) (Auction.bid_cell _)) (by unfold maxLen at *; first | omega | (simp only [List.length_cons, List.length_nil, List.length_append, List.length_map]; omega)) (by omega) rfl rfl rfl H493 ?_
              clear H493; intro v494 a494 wx494 hnil494 H494
              obtain ⟨Ar494, cr494, hvr494, hRr494, hmr494⟩ := row_shape (v := v494) H494.sep (by repeat (first | exact Mh | apply Mt))
              subst hvr494
              refine hfin (H494.sep.sub (by first | exact S0 | exact S1 | repeat (first | exact S1 | exact S0 | apply S2 | apply S3))) ?_
              refine hgo 13 rfl (by kernel_rfl) ?_
              refine st_callg rfl z_call13 rfl rfl rfl rfl H494 (hwin2 _ _ _ (by simp) (by rw [Auction.bdc_append, Auction.bdc_one]; exact Rd.ofSep (rd_row (by repeat (first | exact Mh | apply Mt))) H494.sep) (Rd.frm hB H494.sep.frm (by simp)) (hG.frm H494.sep.frm (by simp))) ?_
              clear H494; intro a495 wx495 H495
              refine hfin (H495.sep.sub (by first | exact S0 | exact S1 | repeat (first | exact S1 | exact S0 | apply S2 | apply S3))) ?_
              refine htake 14 rfl (by kernel_rfl) (y_move rfl rfl) rfl rfl rfl (fun _ h => (h.sub (by first | exact S0 | exact S1 | repeat (first | exact S1 | exact S0 | apply S2 | apply S3)))) H495 ?_
              clear H495; intro a496 H496
              refine htake 15 rfl (by kernel_rfl) (y_extract rfl rfl rfl) rfl rfl rfl (fun _ h => (h.sub (by first | exact S0 | exact S1 | repeat (first | exact S1 | exact S0 | apply S2 | apply S3)))) H496 ?_
              clear H496; intro a497 H497
              refine htake 16 rfl (by kernel_rfl) (y_extract rfl rfl rfl) rfl rfl rfl (fun _ h => (h.sub (by first | exact S0 | exact S1 | repeat (first | exact S1 | exact S0 | apply S2 | apply S3)))) H497 ?_
              clear H497; intro a498 H498
              refine hgo 18 rfl (by kernel_rfl) ?_
              refine st_storeN rfl z_size32 rfl rfl (agg_cells _) (by repeat (first | exact Uh | apply Ut)) (q_one_c4b32c1 rfl rfl rfl rfl rfl) (q_len_c4b32c1 (by assumption)) (q_len_c4b32c1 (by assumption)) (q_spl_c4b32c1_0_c4b32c1 (by assumption) (by assumption)) (by decide) rfl rfl H498 ?_
              clear H498; intro wx499 H499
              refine hfin (H499.sep.sub (by first | exact S0 | exact S1 | repeat (first | exact S1 | exact S0 | apply S2 | apply S3))) ?_
              refine htake 19 rfl (by kernel_rfl) (y_assign rfl rfl) rfl rfl rfl (fun _ h => (h.sub (by first | exact S0 | exact S1 | repeat (first | exact S1 | exact S0 | apply S2 | apply S3)))) H499 ?_
              clear H499; intro a500 H500
              refine hdone (by kernel_rfl) ?_
              refine then_n ?_
              refine wp_seq ?_
              refine reg ?_
              refine plain (y_move rfl rfl) rfl rfl rfl H500 ?_
              clear H500; intro a501 H501
              refine plain (y_move rfl rfl) rfl rfl rfl H501 ?_
              clear H501; intro a502 H502
              have H504 := H502.know (d := 75) (v := .bool true) rfl (congrArg Value.bool hlo.1)
              clear H502
              refine plain (y_fieldB rfl z_field32_0 rfl (by first | (simp only [Nat.zero_add, Nat.add_zero, Nat.reduceAdd]; rfl) | rfl)) rfl rfl rfl H504 ?_
              clear H504; intro a505 H505
              refine plain (y_loadAB rfl z_agg30 z_size30 rfl (by repeat (first | exact Mh | apply Mt)) (q_ld_c4b32c1_0_36 (by assumption)) (q_len_c4b32 (by assumption))) rfl rfl rfl H505 ?_
              clear H505; intro a506 H506
              refine plain (y_fieldB rfl z_field32_0 rfl (by first | (simp only [Nat.zero_add, Nat.add_zero, Nat.reduceAdd]; rfl) | rfl)) rfl rfl rfl H506 ?_
              clear H506; intro a507 H507
              refine plain (y_loadAB rfl z_agg30 z_size30 rfl (by repeat (first | exact Mh | apply Mt)) (q_ld_c4b32c1_0_36 (by assumption)) (q_len_c4b32 (by assumption))) rfl rfl rfl H507 ?_
              clear H507; intro a508 H508
              refine plain (y_teql rfl (by kernel_rfl) rfl rfl (eqr_Bid V.1.bid W.1.bid hvt hx)) rfl rfl rfl H508 ?_
              clear H508; intro a509 H509
              refine plain (y_pick_t rfl rfl rfl) rfl rfl rfl H509 ?_
              clear H509; intro a510 H510
              refine plain (y_move rfl rfl) rfl rfl rfl H510 ?_
              clear H510; intro a511 H511
              have H513 := H511.know (d := 82) (v := .bool true) rfl (congrArg Value.bool (decide_eq_true (hlo.2.1)))
              clear H511
              refine plain (y_fieldB rfl z_field32_1 rfl (by first | (simp only [Nat.zero_add, Nat.add_zero, Nat.reduceAdd]; rfl) | rfl)) rfl rfl rfl H513 ?_
              clear H513; intro a514 H514
              refine plain (y_loadB rfl z_agg3 rfl (by repeat (first | exact Mh | apply Mt)) (q_ix_c4b32c1_36 (by assumption))) rfl rfl rfl H514 ?_
              clear H514; intro a515 H515
              refine plain (y_fieldB rfl z_field32_1 rfl (by first | (simp only [Nat.zero_add, Nat.add_zero, Nat.reduceAdd]; rfl) | rfl)) rfl rfl rfl H515 ?_
              clear H515; intro a516 H516
              refine plain (y_loadB rfl z_agg3 rfl (by repeat (first | exact Mh | apply Mt)) (q_ix_c4b32c1_36 (by assumption))) rfl rfl rfl H516 ?_
              clear H516; intro a517 H517
              refine plain (y_geq rfl rfl rfl) rfl rfl rfl H517 ?_
              clear H517; intro a518 H518
              refine plain (y_pick_t rfl rfl rfl) rfl rfl rfl H518 ?_
              clear H518; intro a519 H519
              refine plain (y_assign rfl rfl) rfl rfl rfl H519 ?_
              clear H519; intro a520 H520
              refine fin ?_
              refine then_n ?_
              refine wp_ret ?_
              -- return 18
              refine ret1 rfl H520 rfl ?_
              first | (exact ⟨_, [], rfl, ⟨rfl, rfl⟩, H520.sep.sub (List.nil_sublist _)⟩) | (exact ⟨_, [], rfl, ⟨congrArg Value.bool (decide_eq_true hlo.2.2), rfl⟩, H520.sep.sub (List.nil_sublist _)⟩)
          · skip
            refine st_alloc rfl z_zeroN32 rfl rfl rfl H87 ?_
            clear H87; intro b521 a521 wx521 H521
            refine hfin (H521.sep.sub (by first | exact S0 | exact S1 | repeat (first | exact S1 | exact S0 | apply S2 | apply S3))) ?_
            refine hgo2 0 5 rfl rfl (by kernel_rfl) ?_ ?_
            · skip
              refine st_buildSlice rfl Tryd.underlying22 z_size30 z_zero30 rfl rfl rfl rfl rfl rfl rfl H521 ?_
              clear H521; intro b522 a522 wx522 H522
              refine hfin (H522.sep.sub (by first | exact S0 | exact S1 | repeat (first | exact S1 | exact S0 | apply S2 | apply S3))) ?_
              refine hgo2 3 5 rfl rfl (by kernel_rfl) ?_ ?_
              · skip
                replace H522 := H522.asRow (b := b522) (size := 36) (m := 0) (by repeat (first | exact Uh | apply Ut)) rfl (by unfold maxLen; omega)
                refine st_append rfl z_slice22 z_notint22 rfl rfl (fun _ => (by repeat (first | exact Uh | apply Ut))) (fun w hs => Src.slice ((rd_old hA (by simp)) w hs) (Auction.bdc_len hw) (Auction.bdc_cell _)) (by unfold maxLen at *; first | omega | (simp only [List.length_cons, List.length_nil, List.length_append, List.length_map]; omega)) (by omega) rfl rfl rfl H522 ?_
                clear H522; intro v523 a523 wx523 hnil523 H523
                obtain ⟨Ar523, cr523, hvr523, hRr523, hmr523⟩ := row_shape (v := v523) H523.sep (by repeat (first | exact Mh | apply Mt))
                subst hvr523
                refine hfin (H523.sep.sub (by first | exact S0 | exact S1 | repeat (first | exact S1 | exact S0 | apply S2 | apply S3))) ?_
                refine hgo 5 rfl (by kernel_rfl) ?_
                refine st_buildSlice rfl Tryd.underlying22 z_size30 z_zero30 rfl rfl rfl (lay_agg (agg_cells _) (Auction.bid_len hxt) (by simp)) rfl rfl rfl H523 ?_
                clear H523; intro b524 a524 wx524 H524
                refine hfin (H524.sep.sub (by first | exact S0 | exact S1 | repeat (first | exact S1 | exact S0 | apply S2 | apply S3))) ?_
                refine hgo 6 rfl (by kernel_rfl) ?_
                refine st_append rfl z_slice22 z_notint22 rfl rfl (fun _ => (by repeat (first | exact Uh | apply Ut))) (fun w hs => Src.slice ((rd_blkA (by repeat (first | exact Mh | apply Mt))) w hs) (Auction.bid_len hxt) (Auction.bid_cell _)) (by unfold maxLen at *; first | omega | (simp only [List.length_cons, List.length_nil, List.length_append, List.length_map]; omega)) (by omega) rfl rfl rfl H524 ?_
                clear H524; intro v525 a525 wx525 hnil525 H525
                obtain ⟨Ar525, cr525, hvr525, hRr525, hmr525⟩ := row_shape (v := v525) H525.sep (by repeat (first | exact Mh | apply Mt))
                subst hvr525
                refine hfin (H525.sep.sub (by first | exact S0 | exact S1 | repeat (first | exact S1 | exact S0 | apply S2 | apply S3))) ?_
                refine hgo 13 rfl (by kernel_rfl) ?_
                refine st_callg rfl z_call13 rfl rfl rfl rfl H525 (hwin2 _ _ _ (by simp) (by rw [Auction.bdc_append, Auction.bdc_one]; exact Rd.ofSep (rd_row (by repeat (first | exact Mh | apply Mt))) H525.sep) (Rd.frm hB H525.sep.frm (by simp)) (hG.frm H525.sep.frm (by simp))) ?_
                clear H525; intro a526 wx526 H526
                refine hfin (H526.sep.sub (by first | exact S0 | exact S1 | repeat (first | exact S1 | exact S0 | apply S2 | apply S3))) ?_
                refine htake 14 rfl (by kernel_rfl) (y_move rfl rfl) rfl rfl rfl (fun _ h => (h.sub (by first | exact S0 | exact S1 | repeat (first | exact S1 | exact S0 | apply S2 | apply S3)))) H526 ?_
                clear H526; intro a527 H527
                refine htake 15 rfl (by kernel_rfl) (y_extract rfl rfl rfl) rfl rfl rfl (fun _ h => (h.sub (by first | exact S0 | exact S1 | repeat (first | exact S1 | exact S0 | apply S2 | apply S3)))) H527 ?_
                clear H527; intro a528 H528
                refine htake 16 rfl (by kernel_rfl) (y_extract rfl rfl rfl) rfl rfl rfl (fun _ h => (h.sub (by first | exact S0 | exact S1 | repeat (first | exact S1 | exact S0 | apply S2 | apply S3)))) H528 ?_
                clear H528; intro a529 H529
                refine hgo 18 rfl (by kernel_rfl) ?_
                refine st_storeN rfl z_size32 rfl rfl (agg_cells _) (by repeat (first | exact Uh | apply Ut)) (q_one_c4b32c1 rfl rfl rfl rfl rfl) (q_len_c4b32c1 (by assumption)) (q_len_c4b32c1 (by assumption)) (q_spl_c4b32c1_0_c4b32c1 (by assumption) (by assumption)) (by decide) rfl rfl H529 ?_
                clear H529; intro wx530 H530
                refine hfin (H530.sep.sub (by first | exact S0 | exact S1 | repeat (first | exact S1 | exact S0 | apply S2 | apply S3))) ?_
                refine htake 19 rfl (by kernel_rfl) (y_assign rfl rfl) rfl rfl rfl (fun _ h => (h.sub (by first | exact S0 | exact S1 | repeat (first | exact S1 | exact S0 | apply S2 | apply S3)))) H530 ?_
                clear H530; intro a531 H531
                refine hdone (by kernel_rfl) ?_
                refine then_n ?_
                refine wp_seq ?_
                refine reg ?_
                refine plain (y_move rfl rfl) rfl rfl rfl H531 ?_
                clear H531; intro a532 H532
                refine plain (y_move rfl rfl) rfl rfl rfl H532 ?_
                clear H532; intro a533 H533
                have H535 := H533.know (d := 75) (v := .bool true) rfl (congrArg Value.bool hlo.1)
                clear H533
                refine plain (y_fieldB rfl z_field32_0 rfl (by first | (simp only [Nat.zero_add, Nat.add_zero, Nat.reduceAdd]; rfl) | rfl)) rfl rfl rfl H535 ?_
                clear H535; intro a536 H536
                refine plain (y_loadAB rfl z_agg30 z_size30 rfl (by repeat (first | exact Mh | apply Mt)) (q_ld_c4b32c1_0_36 (by assumption)) (q_len_c4b32 (by assumption))) rfl rfl rfl H536 ?_
                clear H536; intro a537 H537
                refine plain (y_fieldB rfl z_field32_0 rfl (by first | (simp only [Nat.zero_add, Nat.add_zero, Nat.reduceAdd]; rfl) | rfl)) rfl rfl rfl H537 ?_
                clear H537; intro a538 H538
                refine plain (y_loadAB rfl z_agg30 z_size30 rfl (by repeat (first | exact Mh | apply Mt)) (q_ld_c4b32c1_0_36 (by assumption)) (q_len_c4b32 (by assumption))) rfl rfl rfl H538 ?_
                clear H538; intro a539 H539
                refine plain (y_teql rfl (by kernel_rfl) rfl rfl (eqr_Bid V.1.bid W.1.bid hvt hx)) rfl rfl rfl H539 ?_
                clear H539; intro a540 H540
                refine plain (y_pick_t rfl rfl rfl) rfl rfl rfl H540 ?_
                clear H540; intro a541 H541
                refine plain (y_move rfl rfl) rfl rfl rfl H541 ?_
                clear H541; intro a542 H542
                have H544 := H542.know (d := 82) (v := .bool true) rfl (congrArg Value.bool (decide_eq_true (hlo.2.1)))
                clear H542
                refine plain (y_fieldB rfl z_field32_1 rfl (by first | (simp only [Nat.zero_add, Nat.add_zero, Nat.reduceAdd]; rfl) | rfl)) rfl rfl rfl H544 ?_
                clear H544; intro a545 H545
                refine plain (y_loadB rfl z_agg3 rfl (by repeat (first | exact Mh | apply Mt)) (q_ix_c4b32c1_36 (by assumption))) rfl rfl rfl H545 ?_
                clear H545; intro a546 H546
                refine plain (y_fieldB rfl z_field32_1 rfl (by first | (simp only [Nat.zero_add, Nat.add_zero, Nat.reduceAdd]; rfl) | rfl)) rfl rfl rfl H546 ?_
                clear H546; intro a547 H547
                refine plain (y_loadB rfl z_agg3 rfl (by repeat (first | exact Mh | apply Mt)) (q_ix_c4b32c1_36 (by assumption))) rfl rfl rfl H547 ?_
                clear H547; intro a548 H548
                refine plain (y_geq rfl rfl rfl) rfl rfl rfl H548 ?_
                clear H548; intro a549 H549
                refine plain (y_pick_t rfl rfl rfl) rfl rfl rfl H549 ?_
                clear H549; intro a550 H550
                refine plain (y_assign rfl rfl) rfl rfl rfl H550 ?_
                clear H550; intro a551 H551
                refine fin ?_
                refine then_n ?_
                refine wp_ret ?_
                -- return 19
                refine ret1 rfl H551 rfl ?_
                first | (exact ⟨_, [], rfl, ⟨rfl, rfl⟩, H551.sep.sub (List.nil_sublist _)⟩) | (exact ⟨_, [], rfl, ⟨congrArg Value.bool (decide_eq_true hlo.2.2), rfl⟩, H551.sep.sub (List.nil_sublist _)⟩)
              · skip
                refine st_buildSlice rfl Tryd.underlying22 z_size30 z_zero30 rfl rfl rfl (lay_agg (agg_cells _) (Auction.bid_len hxt) (by simp)) rfl rfl rfl H522 ?_
                clear H522; intro b552 a552 wx552 H552
                refine hfin (H552.sep.sub (by first | exact S0 | exact S1 | repeat (first | exact S1 | exact S0 | apply S2 | apply S3))) ?_
                refine hgo 3 rfl (by kernel_rfl) ?_
                replace H552 := H552.asRow (b := b522) (size := 36) (m := 0) (by repeat (first | exact Uh | apply Ut)) rfl (by unfold maxLen; omega)
                refine st_append rfl z_slice22 z_notint22 rfl rfl (fun _ => (by repeat (first | exact Uh | apply Ut))) (fun w hs => Src.slice ((rd_old hA (by simp)) w hs) (Auction.bdc_len hw) (Auction.bdc_cell _)) (by unfold maxLen at *; first | omega | (simp only [List.length_cons, List.length_nil, List.length_append, List.length_map]; omega)) (by omega) rfl rfl rfl H552 ?_
                clear H552; intro v553 a553 wx553 hnil553 H553
                obtain ⟨Ar553, cr553, hvr553, hRr553, hmr553⟩ := row_shape (v := v553) H553.sep (by repeat (first | exact Mh | apply Mt))
                subst hvr553
                refine hfin (H553.sep.sub (by first | exact S0 | exact S1 | repeat (first | exact S1 | exact S0 | apply S2 | apply S3))) ?_
                refine hgo 6 rfl (by kernel_rfl) ?_
                refine st_append rfl z_slice22 z_notint22 rfl rfl (fun _ => (by repeat (first | exact Uh | apply Ut))) (fun w hs => Src.slice ((rd_blkA (by repeat (first | exact Mh | apply Mt))) w hs) (Auction.bid_len hxt) (Auction.bid_cell _)) (by unfold maxLen at *; first | omega | (simp only [List.length_cons, List.length_nil, List.length_append, List.length_map]; omega)) (by omega) rfl rfl rfl H553 ?_
                clear H553; intro v554 a554 wx554 hnil554 H554
                obtain ⟨Ar554, cr554, hvr554, hRr554, hmr554⟩ := row_shape (v := v554) H554.sep (by repeat (first | exact Mh | apply Mt))
                subst hvr554
                refine hfin (H554.sep.sub (by first | exact S0 | exact S1 | repeat (first | exact S1 | exact S0 | apply S2 | apply S3))) ?_
                refine hgo 13 rfl (by kernel_rfl) ?_
                refine st_callg rfl z_call13 rfl rfl rfl rfl H554 (hwin2 _ _ _ (by simp) (by rw [Auction.bdc_append, Auction.bdc_one]; exact Rd.ofSep (rd_row (by repeat (first | exact Mh | apply Mt))) H554.sep) (Rd.frm hB H554.sep.frm (by simp)) (hG.frm H554.sep.frm (by simp))) ?_
                clear H554; intro a555 wx555 H555
                refine hfin (H555.sep.sub (by first | exact S0 | exact S1 | repeat (first | exact S1 | exact S0 | apply S2 | apply S3))) ?_
                refine htake 14 rfl (by kernel_rfl) (y_move rfl rfl) rfl rfl rfl (fun _ h => (h.sub (by first | exact S0 | exact S1 | repeat (first | exact S1 | exact S0 | apply S2 | apply S3)))) H555 ?_
                clear H555; intro a556 H556
                refine htake 15 rfl (by kernel_rfl) (y_extract rfl rfl rfl) rfl rfl rfl (fun _ h => (h.sub (by first | exact S0 | exact S1 | repeat (first | exact S1 | exact S0 | apply S2 | apply S3)))) H556 ?_
                clear H556; intro a557 H557
                refine htake 16 rfl (by kernel_rfl) (y_extract rfl rfl rfl) rfl rfl rfl (fun _ h => (h.sub (by first | exact S0 | exact S1 | repeat (first | exact S1 | exact S0 | apply S2 | apply S3)))) H557 ?_
                clear H557; intro a558 H558
                refine hgo 18 rfl (by kernel_rfl) ?_
                refine st_storeN rfl z_size32 rfl rfl (agg_cells _) (by repeat (first | exact Uh | apply Ut)) (q_one_c4b32c1 rfl rfl rfl rfl rfl) (q_len_c4b32c1 (by assumption)) (q_len_c4b32c1 (by assumption)) (q_spl_c4b32c1_0_c4b32c1 (by assumption) (by assumption)) (by decide) rfl rfl H558 ?_
                clear H558; intro wx559 H559
                refine hfin (H559.sep.sub (by first | exact S0 | exact S1 | repeat (first | exact S1 | exact S0 | apply S2 | apply S3))) ?_
                refine htake 19 rfl (by kernel_rfl) (y_assign rfl rfl) rfl rfl rfl (fun _ h => (h.sub (by first | exact S0 | exact S1 | repeat (first | exact S1 | exact S0 | apply S2 | apply S3)))) H559 ?_
                clear H559; intro a560 H560
                refine hdone (by kernel_rfl) ?_
                refine then_n ?_
                refine wp_seq ?_
                refine reg ?_
                refine plain (y_move rfl rfl) rfl rfl rfl H560 ?_
                clear H560; intro a561 H561
                refine plain (y_move rfl rfl) rfl rfl rfl H561 ?_
                clear H561; intro a562 H562
                have H564 := H562.know (d := 75) (v := .bool true) rfl (congrArg Value.bool hlo.1)
                clear H562
                refine plain (y_fieldB rfl z_field32_0 rfl (by first | (simp only [Nat.zero_add, Nat.add_zero, Nat.reduceAdd]; rfl) | rfl)) rfl rfl rfl H564 ?_
                clear H564; intro a565 H565
                refine plain (y_loadAB rfl z_agg30 z_size30 rfl (by repeat (first | exact Mh | apply Mt)) (q_ld_c4b32c1_0_36 (by assumption)) (q_len_c4b32 (by assumption))) rfl rfl rfl H565 ?_
                clear H565; intro a566 H566
                refine plain (y_fieldB rfl z_field32_0 rfl (by first | (simp only [Nat.zero_add, Nat.add_zero, Nat.reduceAdd]; rfl) | rfl)) rfl rfl rfl H566 ?_
                clear H566; intro a567 H567
                refine plain (y_loadAB rfl z_agg30 z_size30 rfl (by repeat (first | exact Mh | apply Mt)) (q_ld_c4b32c1_0_36 (by assumption)) (q_len_c4b32 (by assumption))) rfl rfl rfl H567 ?_
                clear H567; intro a568 H568
                refine plain (y_teql rfl (by kernel_rfl) rfl rfl (eqr_Bid V.1.bid W.1.bid hvt hx)) rfl rfl rfl H568 ?_
                clear H568; intro a569 H569
                refine plain (y_pick_t rfl rfl rfl) rfl rfl rfl H569 ?_
                clear H569; intro a570 H570
                refine plain (y_move rfl rfl) rfl rfl rfl H570 ?_
                clear H570; intro a571 H571
                have H573 := H571.know (d := 82) (v := .bool true) rfl (congrArg Value.bool (decide_eq_true (hlo.2.1)))
                clear H571
                refine plain (y_fieldB rfl z_field32_1 rfl (by first | (simp only [Nat.zero_add, Nat.add_zero, Nat.reduceAdd]; rfl) | rfl)) rfl rfl rfl H573 ?_
                clear H573; intro a574 H574
                refine plain (y_loadB rfl z_agg3 rfl (by repeat (first | exact Mh | apply Mt)) (q_ix_c4b32c1_36 (by assumption))) rfl rfl rfl H574 ?_
                clear H574; intro a575 H575
                refine plain (y_fieldB rfl z_field32_1 rfl (by first | (simp only [Nat.zero_add, Nat.add_zero, Nat.reduceAdd]; rfl) | rfl)) rfl rfl rfl H575 ?_
                clear H575; intro a576 H576
                refine plain (y_loadB rfl z_agg3 rfl (by repeat (first | exact Mh | apply Mt)) (q_ix_c4b32c1_36 (by assumption))) rfl rfl rfl H576 ?_
                clear H576; intro a577 H577
                refine plain (y_geq rfl rfl rfl) rfl rfl rfl H577 ?_
                clear H577; intro a578 H578
                refine plain (y_pick_t rfl rfl rfl) rfl rfl rfl H578 ?_
                clear H578; intro a579 H579
                refine plain (y_assign rfl rfl) rfl rfl rfl H579 ?_
                clear H579; intro a580 H580
                refine fin ?_
                refine then_n ?_
                refine wp_ret ?_
                -- return 20
                refine ret1 rfl H580 rfl ?_
                first | (exact ⟨_, [], rfl, ⟨rfl, rfl⟩, H580.sep.sub (List.nil_sublist _)⟩) | (exact ⟨_, [], rfl, ⟨congrArg Value.bool (decide_eq_true hlo.2.2), rfl⟩, H580.sep.sub (List.nil_sublist _)⟩)
            · skip
              refine st_buildSlice rfl Tryd.underlying22 z_size30 z_zero30 rfl rfl rfl (lay_agg (agg_cells _) (Auction.bid_len hxt) (by simp)) rfl rfl rfl H521 ?_
              clear H521; intro b581 a581 wx581 H581
              refine hfin (H581.sep.sub (by first | exact S0 | exact S1 | repeat (first | exact S1 | exact S0 | apply S2 | apply S3))) ?_
              refine hgo 0 rfl (by kernel_rfl) ?_
              refine st_buildSlice rfl Tryd.underlying22 z_size30 z_zero30 rfl rfl rfl rfl rfl rfl rfl H581 ?_
              clear H581; intro b582 a582 wx582 H582
              refine hfin (H582.sep.sub (by first | exact S0 | exact S1 | repeat (first | exact S1 | exact S0 | apply S2 | apply S3))) ?_
              refine hgo 3 rfl (by kernel_rfl) ?_
              replace H582 := H582.asRow (b := b582) (size := 36) (m := 0) (by repeat (first | exact Uh | apply Ut)) rfl (by unfold maxLen; omega)
              refine st_append rfl z_slice22 z_notint22 rfl rfl (fun _ => (by repeat (first | exact Uh | apply Ut))) (fun w hs => Src.slice ((rd_old hA (by simp)) w hs) (Auction.bdc_len hw) (Auction.bdc_cell _)) (by unfold maxLen at *; first | omega | (simp only [List.length_cons, List.length_nil, List.length_append, List.length_map]; omega)) (by omega) rfl rfl rfl H582 ?_
              clear H582; intro v583 a583 wx583 hnil583 H583
              obtain ⟨Ar583, cr583, hvr583, hRr583, hmr583⟩ := row_shape (v := v583) H583.sep (by repeat (first | exact Mh | apply Mt))
              subst hvr583
              refine hfin (H583.sep.sub (by first | exact S0 | exact S1 | repeat (first | exact S1 | exact S0 | apply S2 | apply S3))) ?_
              refine hgo 6 rfl (by kernel_rfl) ?_
              refine st_append rfl z_slice22 z_notint22 rfl rfl (fun _ => (by repeat (first | exact Uh | apply Ut))) (fun w hs => Src.slice ((rd_blkA (by repeat (first | exact Mh | apply Mt))) w hs) (Auction.bid_len hxt) (Auction.bid_cell _)) (by unfold maxLen at *; first | omega | (simp only [List.length_cons, List.length_nil, List.length_append, List.length_map]; omega)) (by omega) rfl rfl rfl H583 ?_
              clear H583; intro v584 a584 wx584 hnil584 H584
              obtain ⟨Ar584, cr584, hvr584, hRr584, hmr584⟩ := row_shape (v := v584) H584.sep (by repeat (first | exact Mh | apply Mt))
              subst hvr584
              refine hfin (H584.sep.sub (by first | exact S0 | exact S1 | repeat (first | exact S1 | exact S0 | apply S2 | apply S3))) ?_
              refine hgo 13 rfl (by kernel_rfl) ?_
              refine st_callg rfl z_call13 rfl rfl rfl rfl H584 (hwin2 _ _ _ (by simp) (by rw [Auction.bdc_append, Auction.bdc_one]; exact Rd.ofSep (rd_row (by repeat (first | exact Mh | apply Mt))) H584.sep) (Rd.frm hB H584.sep.frm (by simp)) (hG.frm H584.sep.frm (by simp))) ?_
              clear H584; intro a585 wx585 H585
              refine hfin (H585.sep.sub (by first | exact S0 | exact S1 | repeat (first | exact S1 | exact S0 | apply S2 | apply S3))) ?_
              refine htake 14 rfl (by kernel_rfl) (y_move rfl rfl) rfl rfl rfl (fun _ h => (h.sub (by first | exact S0 | exact S1 | repeat (first | exact S1 | exact S0 | apply S2 | apply S3)))) H585 ?_
              clear H585; intro a586 H586
              refine htake 15 rfl (by kernel_rfl) (y_extract rfl rfl rfl) rfl rfl rfl (fun _ h => (h.sub (by first | exact S0 | exact S1 | repeat (first | exact S1 | exact S0 | apply S2 | apply S3)))) H586 ?_
              clear H586; intro a587 H587
              refine htake 16 rfl (by kernel_rfl) (y_extract rfl rfl rfl) rfl rfl rfl (fun _ h => (h.sub (by first | exact S0 | exact S1 | repeat (first | exact S1 | exact S0 | apply S2 | apply S3)))) H587 ?_
              clear H587; intro a588 H588
              refine hgo 18 rfl (by kernel_rfl) ?_
              refine st_storeN rfl z_size32 rfl rfl (agg_cells _) (by repeat (first | exact Uh | apply Ut)) (q_one_c4b32c1 rfl rfl rfl rfl rfl) (q_len_c4b32c1 (by assumption)) (q_len_c4b32c1 (by assumption)) (q_spl_c4b32c1_0_c4b32c1 (by assumption) (by assumption)) (by decide) rfl rfl H588 ?_
              clear H588; intro wx589 H589
              refine hfin (H589.sep.sub (by first | exact S0 | exact S1 | repeat (first | exact S1 | exact S0 | apply S2 | apply S3))) ?_
              refine htake 19 rfl (by kernel_rfl) (y_assign rfl rfl) rfl rfl rfl (fun _ h => (h.sub (by first | exact S0 | exact S1 | repeat (first | exact S1 | exact S0 | apply S2 | apply S3)))) H589 ?_
              clear H589; intro a590 H590
              refine hdone (by kernel_rfl) ?_
              refine then_n ?_
              refine wp_seq ?_
              refine reg ?_
              refine plain (y_move rfl rfl) rfl rfl rfl H590 ?_
              clear H590; intro a591 H591
              refine plain (y_move rfl rfl) rfl rfl rfl H591 ?_
              clear H591; intro a592 H592
              have H594 := H592.know (d := 75) (v := .bool true) rfl (congrArg Value.bool hlo.1)
              clear H592
              refine plain (y_fieldB rfl z_field32_0 rfl (by first | (simp only [Nat.zero_add, Nat.add_zero, Nat.reduceAdd]; rfl) | rfl)) rfl rfl rfl H594 ?_
              clear H594; intro a595 H595
              refine plain (y_loadAB rfl z_agg30 z_size30 rfl (by repeat (first | exact Mh | apply Mt)) (q_ld_c4b32c1_0_36 (by assumption)) (q_len_c4b32 (by assumption))) rfl rfl rfl H595 ?_
              clear H595; intro a596 H596
              refine plain (y_fieldB rfl z_field32_0 rfl (by first | (simp only [Nat.zero_add, Nat.add_zero, Nat.reduceAdd]; rfl) | rfl)) rfl rfl rfl H596 ?_
              clear H596; intro a597 H597
              refine plain (y_loadAB rfl z_agg30 z_size30 rfl (by repeat (first | exact Mh | apply Mt)) (q_ld_c4b32c1_0_36 (by assumption)) (q_len_c4b32 (by assumption))) rfl rfl rfl H597 ?_
              clear H597; intro a598 H598
              refine plain (y_teql rfl (by kernel_rfl) rfl rfl (eqr_Bid V.1.bid W.1.bid hvt hx)) rfl rfl rfl H598 ?_
              clear H598; intro a599 H599
              refine plain (y_pick_t rfl rfl rfl) rfl rfl rfl H599 ?_
              clear H599; intro a600 H600
              refine plain (y_move rfl rfl) rfl rfl rfl H600 ?_
              clear H600; intro a601 H601
              have H603 := H601.know (d := 82) (v := .bool true) rfl (congrArg Value.bool (decide_eq_true (hlo.2.1)))
              clear H601
              refine plain (y_fieldB rfl z_field32_1 rfl (by first | (simp only [Nat.zero_add, Nat.add_zero, Nat.reduceAdd]; rfl) | rfl)) rfl rfl rfl H603 ?_
              clear H603; intro a604 H604
              refine plain (y_loadB rfl z_agg3 rfl (by repeat (first | exact Mh | apply Mt)) (q_ix_c4b32c1_36 (by assumption))) rfl rfl rfl H604 ?_
              clear H604; intro a605 H605
              refine plain (y_fieldB rfl z_field32_1 rfl (by first | (simp only [Nat.zero_add, Nat.add_zero, Nat.reduceAdd]; rfl) | rfl)) rfl rfl rfl H605 ?_
              clear H605; intro a606 H606
              refine plain (y_loadB rfl z_agg3 rfl (by repeat (first | exact Mh | apply Mt)) (q_ix_c4b32c1_36 (by assumption))) rfl rfl rfl H606 ?_
              clear H606; intro a607 H607
              refine plain (y_geq rfl rfl rfl) rfl rfl rfl H607 ?_
              clear H607; intro a608 H608
              refine plain (y_pick_t rfl rfl rfl) rfl rfl rfl H608 ?_
              clear H608; intro a609 H609
              refine plain (y_assign rfl rfl) rfl rfl rfl H609 ?_
              clear H609; intro a610 H610
              refine fin ?_
              refine then_n ?_
              refine wp_ret ?_
              -- return 21
              refine ret1 rfl H610 rfl ?_
              first | (exact ⟨_, [], rfl, ⟨rfl, rfl⟩, H610.sep.sub (List.nil_sublist _)⟩) | (exact ⟨_, [], rfl, ⟨congrArg Value.bool (decide_eq_true hlo.2.2), rfl⟩, H610.sep.sub (List.nil_sublist _)⟩)

end Go.Proofs.YtaeahloenahelaaDoor.A_L3

set_option linter.unusedVariables false
set_option linter.unusedSimpArgs false
namespace Go.Proofs.YtaeahloenahelaaDoor.A_Rd
open Go.Sx Go.RowKit

theorem rd_Bid {H : Type} {enc : TypeId × Value → H} {W : World} {sp : Nat → Bool} {held : Bool} {cs : List Value} (h : Trw enc Tryd.prog W sp held 30 cs) : ∃ (x : Note.Bid), cs = Note.Bid.cells x ∧ Note.Bid.Wf x := by
  have hp := h.pieces Tryd.underlying30 [1, 1, 1, 1, 32] (by kernel_rfl)
  obtain ⟨v0, e0, w0⟩ := (h.field Tryd.underlying30 0 rfl (o := 0) rfl (T := 3) rfl (k := 1) (by kernel_rfl)).i64 Tryd.underlying3
  obtain ⟨v1, e1, w1⟩ := (h.field Tryd.underlying30 1 rfl (o := 1) rfl (T := 3) rfl (k := 1) (by kernel_rfl)).i64 Tryd.underlying3
  obtain ⟨v2, e2, w2⟩ := (h.field Tryd.underlying30 2 rfl (o := 2) rfl (T := 3) rfl (k := 1) (by kernel_rfl)).i64 Tryd.underlying3
  obtain ⟨v3, e3, w3⟩ := (h.field Tryd.underlying30 3 rfl (o := 3) rfl (T := 3) rfl (k := 1) (by kernel_rfl)).i64 Tryd.underlying3
  obtain ⟨v4, e4, w4⟩ := (h.field Tryd.underlying30 4 rfl (o := 4) rfl (T := 28) rfl (k := 32) (by kernel_rfl)).bytes Tryd.underlying28 Tryd.underlying5 (by kernel_rfl) (by kernel_rfl)
  refine ⟨⟨v0, v1, v2, v3, v4⟩, ?_, w0, w1, w2, w3, w4⟩
  rw [hp]
  simp only [Sx.pieces, Nat.zero_add, Nat.reduceAdd, e0, e1, e2, e3, e4]
  first | rfl | simp [Note.Bid.cells]
theorem rd_Case {H : Type} {enc : TypeId × Value → H} {W : World} {sp : Nat → Bool} {held : Bool} {cs : List Value} (h : Trw enc Tryd.prog W sp held 25 cs) : ∃ (x : Auction.Case), cs = Auction.Case.cells x ∧ Auction.Case.Wf W x := by
  have hp := h.pieces Tryd.underlying25 [1, 1, 1, 1] (by kernel_rfl)
  obtain ⟨A0, m0, c0, e0, hmc0, hm0, rows0, hr0, hR0, hrow0⟩ := (h.field Tryd.underlying25 0 rfl (o := 0) rfl (T := 22) rfl (k := 1) (by kernel_rfl)).sliceC Tryd.underlying22 (by rw [show Tryd.prog.cellsOf 30 = 36 by kernel_rfl]; decide)
  obtain ⟨v0, rfl, w0⟩ := rows_map (f := Note.Bid.cells) (rows := rows0) (fun r hr => rd_Bid (hrow0 r hr).2)
  simp only [List.length_map] at hr0
  subst hr0
  obtain ⟨A1, m1, c1, e1, hmc1, hm1, rows1, hr1, hR1, hrow1⟩ := (h.field Tryd.underlying25 1 rfl (o := 1) rfl (T := 23) rfl (k := 1) (by kernel_rfl)).sliceC Tryd.underlying23 (by rw [show Tryd.prog.cellsOf 3 = 1 by kernel_rfl]; decide)
  obtain ⟨v1, rfl, w1⟩ := rows_map (f := (fun n : Int => [i64 n])) (rows := rows1) (fun r hr => Trw.i64 (hrow1 r hr).2 Tryd.underlying3)
  simp only [List.length_map] at hr1
  subst hr1
  rw [Auction.flat_one] at hR1
  obtain ⟨v2, e2, w2⟩ := (h.field Tryd.underlying25 2 rfl (o := 2) rfl (T := 3) rfl (k := 1) (by kernel_rfl)).i64 Tryd.underlying3
  obtain ⟨v3, e3, w3⟩ := (h.field Tryd.underlying25 3 rfl (o := 3) rfl (T := 3) rfl (k := 1) (by kernel_rfl)).i64 Tryd.underlying3
  refine ⟨⟨v0, A0, c0, v1, A1, c1, v2, v3⟩, ?_, hmc0, hm1, w0, hR0, hR1⟩
  rw [hp]
  simp only [Sx.pieces, Nat.zero_add, Nat.reduceAdd, e0, e1, e2, e3]
  first | rfl | simp [Auction.Case.cells]

end Go.Proofs.YtaeahloenahelaaDoor.A_Rd
