/- Part of a proof about given Go functions: contracts of functions, or plain laws. -/
import Derived.Test.YtaeahloenahelaaDoorS7
import Derived.Test.YtaeahloenahelaaDoorS5
import Derived.Test.YtaeahloenahelaaDoorS6
import Derived.Test.YtaeahloenahelaaDoorS3
import Derived.Test.YtaeahloenahelaaDoorS1
import Derived.Test.YtaeahloenahelaaDoorS4
import Derived.Test.YtaeahloenahelaaDoorS2
import Derived.Test.YtaeahloenahelaaDoorProg
import Derived.Test.YtaeahloenahelaaDoorW1
import Derived.Test.YtaeahloenahelaaDoorW2
set_option linter.unusedVariables false
set_option linter.unusedSimpArgs false
namespace Go.Proofs.YtaeahloenahelaaDoor.A_Bo1
open Go.Sx Go.RowKit Go.Proofs.YtaeahloenahelaaDoor.A_Block Go.Proofs.YtaeahloenahelaaDoor.A_Sum Go.Proofs.YtaeahloenahelaaDoor.A_Ref Go.Proofs.YtaeahloenahelaaDoor.A_RSum Go.Proofs.YtaeahloenahelaaDoor.A_Leaf Go.Proofs.YtaeahloenahelaaDoor.A_Num Go.Proofs.YtaeahloenahelaaDoor.A_Key Go.Proofs.YtaeahloenahelaaDoor.A_Ref Go.Proofs.YtaeahloenahelaaDoor.A_RSum Go.Proofs.YtaeahloenahelaaDoor.A_Tag Go.Proofs.YtaeahloenahelaaDoor.A_Lay Go.Proofs.YtaeahloenahelaaDoor.A_Eq Go.Proofs.YtaeahloenahelaaDoor.A_Ref0 Go.Proofs.YtaeahloenahelaaDoor.A_Sign Go.Proofs.YtaeahloenahelaaDoor.A_RefB

theorem z_zeroN111 : zeroL Tryd.prog 111 = some ((.int .i64 0 :: (.map none :: []))) := by kernel_rfl
theorem z_places111 : placesB Tryd.prog 111 = some [(0, 1), (1, 1)] := by kernel_rfl
theorem q_len_c2 {a0 a1 : Value} : (a0 :: a1 :: []).length = 2 := (len_c (n := 1) (len_c (n := 0) len_n))
theorem q_spl_c2_0_c1 {a0 a1 : Value} {b0 : Value} : spl (a0 :: a1 :: []) 0 (b0 :: []) = b0 :: a1 :: [] := spl_0
theorem q_spl_c2_1_c1 {a0 a1 : Value} {b0 : Value} : spl (a0 :: a1 :: []) 1 (b0 :: []) = a0 :: b0 :: [] := (spl_c (o := 0) spl_0)
theorem z_agg30 : aggB Tryd.prog 30 = some true := by kernel_rfl
theorem z_size30 : sizeB Tryd.prog 30 = some 36 := by kernel_rfl
theorem q_ld_c4b32_0_36 {a0 a1 a2 a3 : Value} {t4 : List UInt8} (h4 : t4.length = 32) : ((a0 :: a1 :: a2 :: a3 :: t4.map u8).drop 0).take 36 = a0 :: a1 :: a2 :: a3 :: t4.map u8 := (ld_a (len_c (n := 35) (len_c (n := 34) (len_c (n := 33) (len_c (n := 32) (len_e (k := 32) h4))))))
theorem q_len_c4b32 {a0 a1 a2 a3 : Value} {t4 : List UInt8} (h4 : t4.length = 32) : (a0 :: a1 :: a2 :: a3 :: t4.map u8).length = 36 := (len_c (n := 35) (len_c (n := 34) (len_c (n := 33) (len_c (n := 32) (len_e (k := 32) h4)))))
theorem z_call63 : callB Tryd.prog 63 = true := by kernel_rfl
theorem z_field111_1 : fieldB Tryd.prog 111 1 = some 1 := by kernel_rfl
theorem z_agg109 : aggB Tryd.prog 109 = some false := by kernel_rfl
theorem q_ix_c2_1 {a0 a1 : Value} : (a0 :: a1 :: [])[1]? = some a1 := (ix_c (o := 0) ix_0)
theorem z_field30_0 : fieldB Tryd.prog 30 0 = some 0 := by kernel_rfl
theorem z_agg3 : aggB Tryd.prog 3 = some false := by kernel_rfl
theorem q_ix_c4b32_0 {a0 a1 a2 a3 : Value} {t4 : List UInt8} : (a0 :: a1 :: a2 :: a3 :: t4.map u8)[0]? = some a0 := ix_0
theorem z_zval22 : (Tryd.prog.info? 22).bind (·.zero) = some (.slice none 0 0) := by kernel_rfl
theorem z_field30_2 : fieldB Tryd.prog 30 2 = some 2 := by kernel_rfl
theorem q_ix_c4b32_2 {a0 a1 a2 a3 : Value} {t4 : List UInt8} : (a0 :: a1 :: a2 :: a3 :: t4.map u8)[2]? = some a2 := (ix_c (o := 1) (ix_c (o := 0) ix_0))
theorem z_field111_0 : fieldB Tryd.prog 111 0 = some 0 := by kernel_rfl
theorem q_ix_c2_0 {a0 a1 : Value} : (a0 :: a1 :: [])[0]? = some a0 := ix_0
theorem z_zeroN30 : zeroL Tryd.prog 30 = some ((.int .i64 0 :: (.int .i64 0 :: (.int .i64 0 :: (.int .i64 0 :: (List.replicate 32 (0 : UInt8)).map u8))))) := by kernel_rfl
theorem q_one_c4b32 {a0 a1 a2 a3 : Value} {t4 : List UInt8} (o0 : a0.oneCell' = true) (o1 : a1.oneCell' = true) (o2 : a2.oneCell' = true) (o3 : a3.oneCell' = true) : (a0 :: a1 :: a2 :: a3 :: t4.map u8).all (·.oneCell') = true := (one_c o0 (one_c o1 (one_c o2 (one_c o3 (one_u8 _)))))
theorem q_spl_c4b32_0_c4b32 {a0 a1 a2 a3 : Value} {t4 : List UInt8} {b0 b1 b2 b3 : Value} {s4 : List UInt8} (h4 : t4.length = 32) (g4 : s4.length = 32) : spl (a0 :: a1 :: a2 :: a3 :: t4.map u8) 0 (b0 :: b1 :: b2 :: b3 :: s4.map u8) = b0 :: b1 :: b2 :: b3 :: s4.map u8 := (spl_a (z := 36) (len_c (n := 35) (len_c (n := 34) (len_c (n := 33) (len_c (n := 32) (len_e (k := 32) h4))))) (len_c (n := 35) (len_c (n := 34) (len_c (n := 33) (len_c (n := 32) (len_e (k := 32) g4))))))
theorem z_field30_1 : fieldB Tryd.prog 30 1 = some 1 := by kernel_rfl
theorem q_ix_c4b32_1 {a0 a1 a2 a3 : Value} {t4 : List UInt8} : (a0 :: a1 :: a2 :: a3 :: t4.map u8)[1]? = some a1 := (ix_c (o := 0) ix_0)
theorem z_zero30 : zeroL Tryd.prog 30 = some ([.int .i64 0, .int .i64 0, .int .i64 0, .int .i64 0, .int .u8 0, .int .u8 0, .int .u8 0, .int .u8 0, .int .u8 0, .int .u8 0, .int .u8 0, .int .u8 0, .int .u8 0, .int .u8 0, .int .u8 0, .int .u8 0, .int .u8 0, .int .u8 0, .int .u8 0, .int .u8 0, .int .u8 0, .int .u8 0, .int .u8 0, .int .u8 0, .int .u8 0, .int .u8 0, .int .u8 0, .int .u8 0, .int .u8 0, .int .u8 0, .int .u8 0, .int .u8 0, .int .u8 0, .int .u8 0, .int .u8 0, .int .u8 0]) := by kernel_rfl
theorem z_slice22 : sliceB Tryd.prog 22 = some (30, 36, 64) := by kernel_rfl
theorem z_notint22 : notIntB Tryd.prog 22 = true := by kernel_rfl

set_option maxRecDepth 100000 in
set_option maxHeartbeats 1000000 in
theorem anew (floor : Int) (h1 : 0 ≤ floor ∧ floor ≤ 1099511627776) (w : World) : Calls Tryd.prog 33 #[.int .i64 floor] w (Post [] w fun v l' => ∃ b h, v = .tuple #[.pointer (some ⟨b, 0, none⟩), .int .i64 0] ∧ l' = [It.blk b 111 [i64 floor, .map (some h)], It.mp h (fun _ => none)]) := by
  have lz32 : (List.replicate 32 (0 : UInt8)).length = 32 := List.length_replicate
  refine enterL (args := [.int .i64 floor]) Tryd.func33 rfl rfl (l := []) (Sep.refl _) ?_
  intro a0 H0
  refine wp_seq ?_
  refine reg ?_
  refine plain (y_assign rfl rfl) rfl rfl rfl H0 ?_
  clear H0; intro a1 H1
  refine plain (y_assign rfl rfl) rfl rfl rfl H1 ?_
  clear H1; intro a2 H2
  refine fin ?_
  refine then_n ?_
  refine wp_seq ?_
  refine wp_seq ?_
  refine reg ?_
  refine plain (y_move rfl rfl) rfl rfl rfl H2 ?_
  clear H2; intro a3 H3
  refine plain (y_lss rfl rfl rfl) rfl rfl rfl H3 ?_
  clear H3; intro a4 H4
  refine plain (y_move rfl rfl) rfl rfl rfl H4 ?_
  clear H4; intro a5 H5
  have H7 := H5.know (d := 6) (v := .bool false) rfl (congrArg Value.bool (decide_eq_false (by omega)))
  clear H5
  refine plain (y_move rfl rfl) rfl rfl rfl H7 ?_
  clear H7; intro a8 H8
  refine plain (y_gtr rfl rfl rfl) rfl rfl rfl H8 ?_
  clear H8; intro a9 H9
  refine plain (y_pick_f rfl rfl rfl) rfl rfl rfl H9 ?_
  clear H9; intro a10 H10
  refine fin ?_
  refine then_n ?_
  refine cnd H10 rfl (fun hc11 => ?_) (fun hc11 => ?_) -- cond 1
  · (try simp only [decide_eq_true_eq, decide_eq_false_iff_not, Bool.not_eq_true', Bool.not_eq_false', Bool.and_eq_true, Bool.not_eq_true, Bool.not_eq_false] at hc11); (exfalso; omega)
  · skip
    try simp only [decide_eq_true_eq, decide_eq_false_iff_not, Bool.not_eq_true', Bool.not_eq_false', Bool.and_eq_true, Bool.not_eq_true, Bool.not_eq_false] at hc11
    refine wp_skip ?_
    refine then_n ?_
    refine wp_seq ?_
    refine reg ?_
    refine plain (y_move rfl rfl) rfl rfl rfl H10 ?_
    clear H10; intro a12 H12
    refine st_makeMap rfl rfl rfl rfl H12 ?_
    clear H12; intro b13 a13 wx13 H13
    refine plain (y_build rfl z_zeroN111 z_places111 rfl (lay_1 (off := 0) (n := 2) rfl q_len_c2 (by decide) q_spl_c2_0_c1 (lay_1 (off := 1) (n := 2) rfl q_len_c2 (by decide) q_spl_c2_1_c1 lay_n (by rfl)) (by rfl))) rfl rfl rfl H13 ?_
    clear H13; intro a14 H14
    refine st_box rfl rfl (agg_cells _) rfl rfl rfl H14 ?_
    clear H14; intro b15 a15 wx15 H15
    refine plain (y_assign rfl rfl) rfl rfl rfl H15 ?_
    clear H15; intro a16 H16
    refine plain (y_assign rfl rfl) rfl rfl rfl H16 ?_
    clear H16; intro a17 H17
    refine fin ?_
    refine then_n ?_
    refine wp_ret ?_
    -- return 1
    refine ret2 rfl H17 rfl rfl ?_
    first | (exfalso; omega) | (exact ⟨_, _, rfl, ⟨b15, b13, rfl, rfl⟩, H17.sep⟩)
set_option maxRecDepth 100000 in
set_option maxHeartbeats 4000000 in
theorem abid (floor : Int) (xs : List Note.Bid) (hx : Auction.Wfb xs) (hxl : xs.length ≤ 1000) (f : Int → Option Value) (v : Value) (b h : Nat) (x : Note.Bid) (wx : Note.Bid.Wf x) (now : Int) (hv : (f x.round).getD (.slice none 0 0 : Value) = v) {w : World} (hs : Sep (fps [It.blk b 111 [i64 floor, .map (some h)], It.mp h f, It.row 30 36 v xs.length (Auction.bdc xs)]) w w [It.blk b 111 [i64 floor, .map (some h)], It.mp h f, It.row 30 36 v xs.length (Auction.bdc xs)]) (hG : Glob 0 Sha.K w) (hz : 0 ∉ fps [It.blk b 111 [i64 floor, .map (some h)], It.mp h f, It.row 30 36 v xs.length (Auction.bdc xs)]) : Calls Tryd.prog 34 #[.pointer (some ⟨b, 0, none⟩), .agg (Note.Bid.cells x).toArray, .int .i64 now] w (Post (fps [It.blk b 111 [i64 floor, .map (some h)], It.mp h f, It.row 30 36 v xs.length (Auction.bdc xs)]) w fun u l' => u = .int .i64 (Auction.bidE floor xs x now) ∧ ∃ (f' : Int → Option Value) (v' : Value), (f' x.round).getD (.slice none 0 0 : Value) = v' ∧ (∀ q, q ≠ x.round → f' q = f q) ∧ l' = [It.blk b 111 [i64 floor, .map (some h)], It.mp h f', It.row 30 36 v' (Auction.bidL floor xs x now).length (Auction.bdc (Auction.bidL floor xs x now))]) := by
  obtain ⟨A, cc, rfl, hRx, hmx⟩ := row_shape (v := v) hs (by repeat (first | exact Mh | apply Mt))
  have hcap := row_cap (A := A) (c := cc) hs (by repeat (first | exact Mh | apply Mt))
  have htx := wx.tag
  have lz32 : (List.replicate 32 (0 : UInt8)).length = 32 := List.length_replicate
  have lz0 := wx.tag
  refine enterL (args := [.pointer (some ⟨b, 0, none⟩), .agg (Note.Bid.cells x).toArray, .int .i64 now]) Tryd.func34 rfl rfl (l := [It.blk b 111 [i64 floor, .map (some h)], It.mp h f, It.row 30 36 (.slice A xs.length cc) xs.length (Auction.bdc xs)]) hs ?_
  intro a0 H0
  refine wp_seq ?_
  refine reg ?_
  refine st_box rfl rfl (agg_cells _) rfl rfl rfl H0 ?_
  clear H0; intro b1 a1 wx1 H1
  refine plain (y_assign rfl rfl) rfl rfl rfl H1 ?_
  clear H1; intro a2 H2
  refine fin ?_
  refine then_n ?_
  refine wp_seq ?_
  refine wp_seq ?_
  refine reg ?_
  refine plain (y_move rfl rfl) rfl rfl rfl H2 ?_
  clear H2; intro a3 H3
  refine plain (y_peql rfl Tryd.underlying68 rfl rfl) rfl rfl rfl H3 ?_
  clear H3; intro a4 H4
  refine fin ?_
  refine then_n ?_
  refine cnd_f H4 rfl ?_
  refine wp_skip ?_
  refine then_n ?_
  refine wp_seq ?_
  refine wp_seq ?_
  refine reg ?_
  refine plain (y_loadAB rfl z_agg30 z_size30 rfl (by repeat (first | exact Mh | apply Mt)) (q_ld_c4b32_0_36 (by assumption)) (q_len_c4b32 (by assumption))) rfl rfl rfl H4 ?_
  clear H4; intro a6 H6
  refine st_callg rfl z_call63 rfl rfl rfl rfl H6 (ncheck x wx (hG.frm H6.sep.frm hz)) ?_
  clear H6; intro a7 wx7 H7
  refine plain (y_assign rfl rfl) rfl rfl rfl H7 ?_
  clear H7; intro a8 H8
  refine fin ?_
  refine then_n ?_
  refine wp_seq ?_
  refine reg ?_
  refine plain (y_move rfl rfl) rfl rfl rfl H8 ?_
  clear H8; intro a9 H9
  refine plain (y_neq rfl rfl rfl) rfl rfl rfl H9 ?_
  clear H9; intro a10 H10
  refine fin ?_
  refine then_n ?_
  refine cnd H10 rfl (fun hc11 => ?_) (fun hc11 => ?_) -- cond 2
  · skip
    try simp only [decide_eq_true_eq, decide_eq_false_iff_not, Bool.not_eq_true', Bool.not_eq_false', Bool.and_eq_true, Bool.not_eq_true, Bool.not_eq_false] at hc11
    have hc1 := hc11
    refine wp_seq ?_
    refine reg ?_
    refine plain (y_move rfl rfl) rfl rfl rfl H10 ?_
    clear H10; intro a12 H12
    refine plain (y_assign rfl rfl) rfl rfl rfl H12 ?_
    clear H12; intro a13 H13
    refine fin ?_
    refine then_n ?_
    refine wp_ret ?_
    refine then_r ?_
    -- return 1
    refine ret1 rfl H13 rfl ?_
    first | (have hz := Auction.e_chk (floor := floor) (xs := xs) (now := now) hc1; rw [hz.1, hz.2]; exact ⟨_, _, rfl, ⟨rfl, f, (.slice A xs.length cc), hv, fun _ _ => rfl, rfl⟩, H13.sep.sub (by repeat (first | exact S1 | exact S0 | apply S2 | apply S3))⟩) | (have hz := Auction.e_late (floor := floor) (xs := xs) hc2 hl1; rw [hz.1, hz.2]; exact ⟨_, _, rfl, ⟨rfl, f, (.slice A xs.length cc), hv, fun _ _ => rfl, rfl⟩, H13.sep.sub (by repeat (first | exact S1 | exact S0 | apply S2 | apply S3))⟩) | (have hz := Auction.e_fee (floor := floor) (xs := xs) hc2 hl2 hf1; rw [hz.1, hz.2]; exact ⟨_, _, rfl, ⟨rfl, f, (.slice A xs.length cc), hv, fun _ _ => rfl, rfl⟩, H13.sep.sub (by repeat (first | exact S1 | exact S0 | apply S2 | apply S3))⟩) | (have hz := Auction.e_twice (floor := floor) (xs := xs) hc2 hl2 hf2 (Auction.not_fresh hkl ht1); rw [hz.1, hz.2]; exact ⟨_, _, rfl, ⟨rfl, f, (.slice A xs.length cc), hv, fun _ _ => rfl, rfl⟩, H13.sep.sub (by repeat (first | exact S1 | exact S0 | apply S2 | apply S3))⟩) | (have hz := Auction.e_full (floor := floor) hc2 hl2 hf2 hfr (by omega); rw [hz.1, hz.2]; exact ⟨_, _, rfl, ⟨rfl, f, (.slice A xs.length cc), hv, fun _ _ => rfl, rfl⟩, H13.sep.sub (by repeat (first | exact S1 | exact S0 | apply S2 | apply S3))⟩) | (have hz := Auction.e_ok (floor := floor) hc2 hl2 hf2 hfr (by omega); rw [hz.1, hz.2]; refine ⟨_, _, rfl, ⟨rfl, mset f x.round (.slice ArW (xs.length + 1) crW), .slice ArW (xs.length + 1) crW, Auction.mset_at, fun _ hq => Auction.mset_ne hq, rfl⟩, ?_⟩; rw [Auction.bdc_append, Auction.bdc_one, List.length_append]; exact (H13.only (is := [It.blk b 111 [i64 floor, .map (some h)], It.mp h (mset f x.round (.slice ArW (xs.length + 1) crW)), It.row 30 36 (.slice ArW (xs.length + 1) crW) (xs.length + 1) (Auction.bdc xs ++ Note.Bid.cells x)]) (.cons (by repeat (first | exact Ph | apply Pt)) (.cons (by repeat (first | exact Ph | apply Pt)) (.cons (by repeat (first | exact Ph | apply Pt)) (.nil _))))).sep)
  · skip
    try simp only [decide_eq_true_eq, decide_eq_false_iff_not, Bool.not_eq_true', Bool.not_eq_false', Bool.and_eq_true, Bool.not_eq_true, Bool.not_eq_false] at hc11
    have hc2 := hc11
    refine wp_skip ?_
    refine then_n ?_
    refine wp_seq ?_
    refine qreg (by kernel_rfl) (by kernel_rfl) H10 ?_
    have F14 := H10.fr
    clear H10
    refine qplain (y_move rfl rfl) rfl rfl rfl F14 ?_
    clear F14; intro a15 H15
    refine qplain (y_nilCheck rfl rfl) rfl rfl rfl H15 ?_
    clear H15; intro a16 H16
    refine qplain (y_fieldB rfl z_field111_1 rfl (by first | (simp only [Nat.zero_add, Nat.add_zero, Nat.reduceAdd]; rfl) | rfl)) rfl rfl rfl H16 ?_
    clear H16; intro a17 H17
    refine qplain (y_loadB rfl z_agg109 rfl (by repeat (first | exact Mh | apply Mt)) q_ix_c2_1) rfl rfl rfl H17 ?_
    clear H17; intro a18 H18
    refine qplain (y_fieldB rfl z_field30_0 rfl (by first | (simp only [Nat.zero_add, Nat.add_zero, Nat.reduceAdd]; rfl) | rfl)) rfl rfl rfl H18 ?_
    clear H18; intro a19 H19
    refine qplain (y_loadB rfl z_agg3 rfl (by repeat (first | exact Mh | apply Mt)) q_ix_c4b32_0) rfl rfl rfl H19 ?_
    clear H19; intro a20 H20
    refine qplain (y_lookup rfl Tryd.underlying109 Tryd.underlying3 z_zval22 rfl rfl (by repeat (first | exact Mh | apply Mt))) rfl rfl rfl H20 ?_
    clear H20; intro a21 H21
    refine qplain (y_assign rfl rfl) rfl rfl rfl H21 ?_
    clear H21; intro a22 H22
    refine qfin H22 ?_
    clear H22; intro wx23 H23
    refine then_n ?_
    refine wp_seq ?_
    refine wp_block ?_
    refine wp_seq ?_
    replace H23 := H23.know (d := 8) rfl hv
    refine reg ?_
    refine plain (y_fieldB rfl z_field30_0 rfl (by first | (simp only [Nat.zero_add, Nat.add_zero, Nat.reduceAdd]; rfl) | rfl)) rfl rfl rfl H23 ?_
    clear H23; intro a24 H24
    refine plain (y_loadB rfl z_agg3 rfl (by repeat (first | exact Mh | apply Mt)) q_ix_c4b32_0) rfl rfl rfl H24 ?_
    clear H24; intro a25 H25
    refine plain (y_move rfl rfl) rfl rfl rfl H25 ?_
    clear H25; intro a26 H26
    refine plain (y_leq rfl rfl rfl) rfl rfl rfl H26 ?_
    clear H26; intro a27 H27
    refine plain (y_assign rfl rfl) rfl rfl rfl H27 ?_
    clear H27; intro a28 H28
    refine fin ?_
    refine then_n ?_
    refine cnd H28 rfl (fun hc29 => ?_) (fun hc29 => ?_) -- cond 3
    · skip
      try simp only [decide_eq_true_eq, decide_eq_false_iff_not, Bool.not_eq_true', Bool.not_eq_false', Bool.and_eq_true, Bool.not_eq_true, Bool.not_eq_false] at hc29
      have hl1 := hc29
      refine wp_seq ?_
      refine reg ?_
      refine plain (y_assign rfl rfl) rfl rfl rfl H28 ?_
      clear H28; intro a30 H30
      refine fin ?_
      refine then_n ?_
      refine wp_ret ?_
      refine inb_r ?_
      refine then_r ?_
      -- return 2
      refine ret1 rfl H30 rfl ?_
      first | (have hz := Auction.e_chk (floor := floor) (xs := xs) (now := now) hc1; rw [hz.1, hz.2]; exact ⟨_, _, rfl, ⟨rfl, f, (.slice A xs.length cc), hv, fun _ _ => rfl, rfl⟩, H30.sep.sub (by repeat (first | exact S1 | exact S0 | apply S2 | apply S3))⟩) | (have hz := Auction.e_late (floor := floor) (xs := xs) hc2 hl1; rw [hz.1, hz.2]; exact ⟨_, _, rfl, ⟨rfl, f, (.slice A xs.length cc), hv, fun _ _ => rfl, rfl⟩, H30.sep.sub (by repeat (first | exact S1 | exact S0 | apply S2 | apply S3))⟩) | (have hz := Auction.e_fee (floor := floor) (xs := xs) hc2 hl2 hf1; rw [hz.1, hz.2]; exact ⟨_, _, rfl, ⟨rfl, f, (.slice A xs.length cc), hv, fun _ _ => rfl, rfl⟩, H30.sep.sub (by repeat (first | exact S1 | exact S0 | apply S2 | apply S3))⟩) | (have hz := Auction.e_twice (floor := floor) (xs := xs) hc2 hl2 hf2 (Auction.not_fresh hkl ht1); rw [hz.1, hz.2]; exact ⟨_, _, rfl, ⟨rfl, f, (.slice A xs.length cc), hv, fun _ _ => rfl, rfl⟩, H30.sep.sub (by repeat (first | exact S1 | exact S0 | apply S2 | apply S3))⟩) | (have hz := Auction.e_full (floor := floor) hc2 hl2 hf2 hfr (by omega); rw [hz.1, hz.2]; exact ⟨_, _, rfl, ⟨rfl, f, (.slice A xs.length cc), hv, fun _ _ => rfl, rfl⟩, H30.sep.sub (by repeat (first | exact S1 | exact S0 | apply S2 | apply S3))⟩) | (have hz := Auction.e_ok (floor := floor) hc2 hl2 hf2 hfr (by omega); rw [hz.1, hz.2]; refine ⟨_, _, rfl, ⟨rfl, mset f x.round (.slice ArW (xs.length + 1) crW), .slice ArW (xs.length + 1) crW, Auction.mset_at, fun _ hq => Auction.mset_ne hq, rfl⟩, ?_⟩; rw [Auction.bdc_append, Auction.bdc_one, List.length_append]; exact (H30.only (is := [It.blk b 111 [i64 floor, .map (some h)], It.mp h (mset f x.round (.slice ArW (xs.length + 1) crW)), It.row 30 36 (.slice ArW (xs.length + 1) crW) (xs.length + 1) (Auction.bdc xs ++ Note.Bid.cells x)]) (.cons (by repeat (first | exact Ph | apply Pt)) (.cons (by repeat (first | exact Ph | apply Pt)) (.cons (by repeat (first | exact Ph | apply Pt)) (.nil _))))).sep)
    · skip
      try simp only [decide_eq_true_eq, decide_eq_false_iff_not, Bool.not_eq_true', Bool.not_eq_false', Bool.and_eq_true, Bool.not_eq_true, Bool.not_eq_false] at hc29
      have hl2 := hc29
      refine wp_seq ?_
      refine qreg (by kernel_rfl) (by kernel_rfl) H28 ?_
      have F31 := H28.fr
      clear H28
      refine qplain (y_fieldB rfl z_field30_2 rfl (by first | (simp only [Nat.zero_add, Nat.add_zero, Nat.reduceAdd]; rfl) | rfl)) rfl rfl rfl F31 ?_
      clear F31; intro a32 H32
      refine qplain (y_loadB rfl z_agg3 rfl (by repeat (first | exact Mh | apply Mt)) q_ix_c4b32_2) rfl rfl rfl H32 ?_
      clear H32; intro a33 H33
      refine qplain (y_move rfl rfl) rfl rfl rfl H33 ?_
      clear H33; intro a34 H34
      refine qplain (y_nilCheck rfl rfl) rfl rfl rfl H34 ?_
      clear H34; intro a35 H35
      refine qplain (y_fieldB rfl z_field111_0 rfl (by first | (simp only [Nat.zero_add, Nat.add_zero, Nat.reduceAdd]; rfl) | rfl)) rfl rfl rfl H35 ?_
      clear H35; intro a36 H36
      refine qplain (y_loadB rfl z_agg3 rfl (by repeat (first | exact Mh | apply Mt)) q_ix_c2_0) rfl rfl rfl H36 ?_
      clear H36; intro a37 H37
      refine qplain (y_lss rfl rfl rfl) rfl rfl rfl H37 ?_
      clear H37; intro a38 H38
      refine qplain (y_assign rfl rfl) rfl rfl rfl H38 ?_
      clear H38; intro a39 H39
      refine qfin H39 ?_
      clear H39; intro wx40 H40
      refine then_n ?_
      refine cnd H40 rfl (fun hc41 => ?_) (fun hc41 => ?_) -- cond 4
      · skip
        try simp only [decide_eq_true_eq, decide_eq_false_iff_not, Bool.not_eq_true', Bool.not_eq_false', Bool.and_eq_true, Bool.not_eq_true, Bool.not_eq_false] at hc41
        have hf1 := hc41
        refine wp_seq ?_
        refine reg ?_
        refine plain (y_assign rfl rfl) rfl rfl rfl H40 ?_
        clear H40; intro a42 H42
        refine fin ?_
        refine then_n ?_
        refine wp_ret ?_
        refine inb_r ?_
        refine then_r ?_
        -- return 3
        refine ret1 rfl H42 rfl ?_
        first | (have hz := Auction.e_chk (floor := floor) (xs := xs) (now := now) hc1; rw [hz.1, hz.2]; exact ⟨_, _, rfl, ⟨rfl, f, (.slice A xs.length cc), hv, fun _ _ => rfl, rfl⟩, H42.sep.sub (by repeat (first | exact S1 | exact S0 | apply S2 | apply S3))⟩) | (have hz := Auction.e_late (floor := floor) (xs := xs) hc2 hl1; rw [hz.1, hz.2]; exact ⟨_, _, rfl, ⟨rfl, f, (.slice A xs.length cc), hv, fun _ _ => rfl, rfl⟩, H42.sep.sub (by repeat (first | exact S1 | exact S0 | apply S2 | apply S3))⟩) | (have hz := Auction.e_fee (floor := floor) (xs := xs) hc2 hl2 hf1; rw [hz.1, hz.2]; exact ⟨_, _, rfl, ⟨rfl, f, (.slice A xs.length cc), hv, fun _ _ => rfl, rfl⟩, H42.sep.sub (by repeat (first | exact S1 | exact S0 | apply S2 | apply S3))⟩) | (have hz := Auction.e_twice (floor := floor) (xs := xs) hc2 hl2 hf2 (Auction.not_fresh hkl ht1); rw [hz.1, hz.2]; exact ⟨_, _, rfl, ⟨rfl, f, (.slice A xs.length cc), hv, fun _ _ => rfl, rfl⟩, H42.sep.sub (by repeat (first | exact S1 | exact S0 | apply S2 | apply S3))⟩) | (have hz := Auction.e_full (floor := floor) hc2 hl2 hf2 hfr (by omega); rw [hz.1, hz.2]; exact ⟨_, _, rfl, ⟨rfl, f, (.slice A xs.length cc), hv, fun _ _ => rfl, rfl⟩, H42.sep.sub (by repeat (first | exact S1 | exact S0 | apply S2 | apply S3))⟩) | (have hz := Auction.e_ok (floor := floor) hc2 hl2 hf2 hfr (by omega); rw [hz.1, hz.2]; refine ⟨_, _, rfl, ⟨rfl, mset f x.round (.slice ArW (xs.length + 1) crW), .slice ArW (xs.length + 1) crW, Auction.mset_at, fun _ hq => Auction.mset_ne hq, rfl⟩, ?_⟩; rw [Auction.bdc_append, Auction.bdc_one, List.length_append]; exact (H42.only (is := [It.blk b 111 [i64 floor, .map (some h)], It.mp h (mset f x.round (.slice ArW (xs.length + 1) crW)), It.row 30 36 (.slice ArW (xs.length + 1) crW) (xs.length + 1) (Auction.bdc xs ++ Note.Bid.cells x)]) (.cons (by repeat (first | exact Ph | apply Pt)) (.cons (by repeat (first | exact Ph | apply Pt)) (.cons (by repeat (first | exact Ph | apply Pt)) (.nil _))))).sep)
      · skip
        try simp only [decide_eq_true_eq, decide_eq_false_iff_not, Bool.not_eq_true', Bool.not_eq_false', Bool.and_eq_true, Bool.not_eq_true, Bool.not_eq_false] at hc41
        have hf2 := hc41
        refine wp_skip ?_
        refine inb_n ?_
        refine then_n ?_
        refine wp_seq ?_
        refine wp_seq ?_
        refine reg ?_
        refine plain (y_move rfl rfl) rfl rfl rfl H40 ?_
        clear H40; intro a43 H43
        refine plain (y_len rfl Tryd.underlying22 rfl) rfl rfl rfl H43 ?_
        clear H43; intro a44 H44
        refine plain (y_move rfl rfl) rfl rfl rfl H44 ?_
        clear H44; intro a45 H45
        refine fin ?_
        refine then_n ?_
        refine wp_block ?_
        refine loop (ι := Nat) (fun k => [(0, .pointer (some ⟨b, 0, none⟩)), (2, .int .i64 now), (4, .pointer (some ⟨b1, 0, none⟩)), (6, .int .i64 0), (8, (.slice A xs.length cc)), (38, (.slice A xs.length cc)), (39, .int .i64 (xs.length : Int)), (40, .int .i64 (k : Int))]) (fun k => [It.blk b1 30 (Note.Bid.cells x), It.blk b 111 [i64 floor, .map (some h)], It.mp h f, It.row 30 36 (.slice A xs.length cc) xs.length (Auction.bdc xs)]) (fun k => k ≤ xs.length ∧ ∀ j, j < k → (xs.getD j Note.Bid.zero).who ≠ x.who) (fun k => xs.length - k) (0) ⟨Nat.zero_le _, fun j hj => absurd hj (by omega)⟩ (H45.weak ⟨rfl, rfl, rfl, rfl, rfl, rfl, rfl, rfl, trivial⟩ rfl) ?_
        clear H45; intro k a46 wx46 hok46 H46
        obtain ⟨hok, hne⟩ := hok46
        refine wp_seq ?_
        refine reg ?_
        refine plain (y_lss rfl rfl rfl) rfl rfl rfl H46 ?_
        clear H46; intro a47 H47
        refine fin ?_
        refine then_n ?_
        refine wp_seq ?_
        refine cnd H47 rfl (fun hc48 => ?_) (fun hc48 => ?_) -- cond 5
        · skip
          try simp only [decide_eq_true_eq, decide_eq_false_iff_not, Bool.not_eq_true', Bool.not_eq_false', Bool.and_eq_true, Bool.not_eq_true, Bool.not_eq_false] at hc48
          refine wp_skip ?_
          refine then_n ?_
          refine wp_seq ?_
          refine wp_block ?_
          refine wp_seq ?_
          have hkl : k < xs.length := by omega
          have hwk := Auction.atD hx hkl
          have htg := hwk.tag
          refine reg ?_
          refine plain (y_ixR rfl Tryd.underlying22 z_size30 rfl rfl (by omega) (by omega) (rd_row (by repeat (first | exact Mh | apply Mt))) (by rw [Auction.bdc_len hx]; omega)) rfl rfl rfl H47 ?_
          clear H47; intro a49 H49
          refine plain (y_loadAS rfl z_agg30 z_size30 rfl (rd_row (by repeat (first | exact Mh | apply Mt))) (show _ = Note.Bid.cells (xs.getD k Note.Bid.zero) from Auction.bdc_take hx k (by omega)) (Auction.bid_len htg) (by decide)) rfl rfl rfl H49 ?_
          clear H49; intro a50 H50
          refine st_alloc rfl z_zeroN30 rfl rfl rfl H50 ?_
          clear H50; intro b51 a51 wx51 H51
          refine st_storeN rfl z_size30 rfl rfl (agg_cells _) (by repeat (first | exact Uh | apply Ut)) (q_one_c4b32 rfl rfl rfl rfl) (q_len_c4b32 (by assumption)) (q_len_c4b32 (by assumption)) (q_spl_c4b32_0_c4b32 (by assumption) (by assumption)) (by decide) rfl rfl H51 ?_
          clear H51; intro wx52 H52
          refine fin ?_
          refine then_n ?_
          refine wp_seq ?_
          refine reg ?_
          refine plain (y_fieldB rfl z_field30_1 rfl (by first | (simp only [Nat.zero_add, Nat.add_zero, Nat.reduceAdd]; rfl) | rfl)) rfl rfl rfl H52 ?_
          clear H52; intro a53 H53
          refine plain (y_loadB rfl z_agg3 rfl (by repeat (first | exact Mh | apply Mt)) q_ix_c4b32_1) rfl rfl rfl H53 ?_
          clear H53; intro a54 H54
          refine plain (y_fieldB rfl z_field30_1 rfl (by first | (simp only [Nat.zero_add, Nat.add_zero, Nat.reduceAdd]; rfl) | rfl)) rfl rfl rfl H54 ?_
          clear H54; intro a55 H55
          refine plain (y_loadB rfl z_agg3 rfl (by repeat (first | exact Mh | apply Mt)) q_ix_c4b32_1) rfl rfl rfl H55 ?_
          clear H55; intro a56 H56
          refine plain (y_eql rfl rfl rfl) rfl rfl rfl H56 ?_
          clear H56; intro a57 H57
          refine fin ?_
          refine then_n ?_
          refine cnd H57 rfl (fun hc58 => ?_) (fun hc58 => ?_) -- cond 6
          · skip
            try simp only [decide_eq_true_eq, decide_eq_false_iff_not, Bool.not_eq_true', Bool.not_eq_false', Bool.and_eq_true, Bool.not_eq_true, Bool.not_eq_false] at hc58
            have ht1 := hc58
            refine wp_seq ?_
            refine reg ?_
            refine plain (y_assign rfl rfl) rfl rfl rfl H57 ?_
            clear H57; intro a59 H59
            refine fin ?_
            refine then_n ?_
            refine wp_ret ?_
            refine inb_r ?_
            refine then_r ?_
            refine then_r ?_
            refine inb_r ?_
            refine then_r ?_
            -- return 4
            refine ret1 rfl H59 rfl ?_
            first | (have hz := Auction.e_chk (floor := floor) (xs := xs) (now := now) hc1; rw [hz.1, hz.2]; exact ⟨_, _, rfl, ⟨rfl, f, (.slice A xs.length cc), hv, fun _ _ => rfl, rfl⟩, H59.sep.sub (by repeat (first | exact S1 | exact S0 | apply S2 | apply S3))⟩) | (have hz := Auction.e_late (floor := floor) (xs := xs) hc2 hl1; rw [hz.1, hz.2]; exact ⟨_, _, rfl, ⟨rfl, f, (.slice A xs.length cc), hv, fun _ _ => rfl, rfl⟩, H59.sep.sub (by repeat (first | exact S1 | exact S0 | apply S2 | apply S3))⟩) | (have hz := Auction.e_fee (floor := floor) (xs := xs) hc2 hl2 hf1; rw [hz.1, hz.2]; exact ⟨_, _, rfl, ⟨rfl, f, (.slice A xs.length cc), hv, fun _ _ => rfl, rfl⟩, H59.sep.sub (by repeat (first | exact S1 | exact S0 | apply S2 | apply S3))⟩) | (have hz := Auction.e_twice (floor := floor) (xs := xs) hc2 hl2 hf2 (Auction.not_fresh hkl ht1); rw [hz.1, hz.2]; exact ⟨_, _, rfl, ⟨rfl, f, (.slice A xs.length cc), hv, fun _ _ => rfl, rfl⟩, H59.sep.sub (by repeat (first | exact S1 | exact S0 | apply S2 | apply S3))⟩) | (have hz := Auction.e_full (floor := floor) hc2 hl2 hf2 hfr (by omega); rw [hz.1, hz.2]; exact ⟨_, _, rfl, ⟨rfl, f, (.slice A xs.length cc), hv, fun _ _ => rfl, rfl⟩, H59.sep.sub (by repeat (first | exact S1 | exact S0 | apply S2 | apply S3))⟩) | (have hz := Auction.e_ok (floor := floor) hc2 hl2 hf2 hfr (by omega); rw [hz.1, hz.2]; refine ⟨_, _, rfl, ⟨rfl, mset f x.round (.slice ArW (xs.length + 1) crW), .slice ArW (xs.length + 1) crW, Auction.mset_at, fun _ hq => Auction.mset_ne hq, rfl⟩, ?_⟩; rw [Auction.bdc_append, Auction.bdc_one, List.length_append]; exact (H59.only (is := [It.blk b 111 [i64 floor, .map (some h)], It.mp h (mset f x.round (.slice ArW (xs.length + 1) crW)), It.row 30 36 (.slice ArW (xs.length + 1) crW) (xs.length + 1) (Auction.bdc xs ++ Note.Bid.cells x)]) (.cons (by repeat (first | exact Ph | apply Pt)) (.cons (by repeat (first | exact Ph | apply Pt)) (.cons (by repeat (first | exact Ph | apply Pt)) (.nil _))))).sep)
          · skip
            try simp only [decide_eq_true_eq, decide_eq_false_iff_not, Bool.not_eq_true', Bool.not_eq_false', Bool.and_eq_true, Bool.not_eq_true, Bool.not_eq_false] at hc58
            have ht2 := hc58
            refine wp_skip ?_
            refine inb_n ?_
            refine then_n ?_
            refine reg ?_
            refine plain (y_add rfl rfl rfl (by first | exact w64 (by omega) (by omega) | rfl)) rfl rfl rfl H57 ?_
            clear H57; intro a60 H60
            refine plain (y_move rfl rfl) rfl rfl rfl H60 ?_
            clear H60; intro a61 H61
            refine fin ?_
            refine then_n ?_
            refine ⟨k + 1, by omega, ⟨by omega, fun j hj => ?_⟩, (H61.drop (List.Sublist.cons _ (List.Sublist.refl _))).weak ⟨rfl, rfl, rfl, rfl, rfl, rfl, rfl, fi rfl (by omega), trivial⟩ rfl⟩
            by_cases e : j = k
            · subst e; exact ht2
            · exact hne j (by omega)
        · skip
          try simp only [decide_eq_true_eq, decide_eq_false_iff_not, Bool.not_eq_true', Bool.not_eq_false', Bool.and_eq_true, Bool.not_eq_true, Bool.not_eq_false] at hc48
          refine wp_exit ?_
          refine then_x ?_
          refine then_x ?_
          refine inb_hit ?_
          refine then_n ?_
          refine wp_seq ?_
          refine wp_seq ?_
          have hfr : Auction.fresh xs x := Auction.fresh_at (by omega) hne
          refine reg ?_
          refine plain (y_move rfl rfl) rfl rfl rfl H47 ?_
          clear H47; intro a62 H62
          refine plain (y_len rfl Tryd.underlying22 rfl) rfl rfl rfl H62 ?_
          clear H62; intro a63 H63
          refine plain (y_geq rfl rfl rfl) rfl rfl rfl H63 ?_
          clear H63; intro a64 H64
          refine fin ?_
          refine then_n ?_
          refine cnd H64 rfl (fun hc65 => ?_) (fun hc65 => ?_) -- cond 7
          · skip
            try simp only [decide_eq_true_eq, decide_eq_false_iff_not, Bool.not_eq_true', Bool.not_eq_false', Bool.and_eq_true, Bool.not_eq_true, Bool.not_eq_false] at hc65
            have hu1 := hc65
            refine wp_seq ?_
            refine reg ?_
            refine plain (y_assign rfl rfl) rfl rfl rfl H64 ?_
            clear H64; intro a66 H66
            refine fin ?_
            refine then_n ?_
            refine wp_ret ?_
            refine then_r ?_
            -- return 5
            refine ret1 rfl H66 rfl ?_
            first | (have hz := Auction.e_chk (floor := floor) (xs := xs) (now := now) hc1; rw [hz.1, hz.2]; exact ⟨_, _, rfl, ⟨rfl, f, (.slice A xs.length cc), hv, fun _ _ => rfl, rfl⟩, H66.sep.sub (by repeat (first | exact S1 | exact S0 | apply S2 | apply S3))⟩) | (have hz := Auction.e_late (floor := floor) (xs := xs) hc2 hl1; rw [hz.1, hz.2]; exact ⟨_, _, rfl, ⟨rfl, f, (.slice A xs.length cc), hv, fun _ _ => rfl, rfl⟩, H66.sep.sub (by repeat (first | exact S1 | exact S0 | apply S2 | apply S3))⟩) | (have hz := Auction.e_fee (floor := floor) (xs := xs) hc2 hl2 hf1; rw [hz.1, hz.2]; exact ⟨_, _, rfl, ⟨rfl, f, (.slice A xs.length cc), hv, fun _ _ => rfl, rfl⟩, H66.sep.sub (by repeat (first | exact S1 | exact S0 | apply S2 | apply S3))⟩) | (have hz := Auction.e_twice (floor := floor) (xs := xs) hc2 hl2 hf2 (Auction.not_fresh hkl ht1); rw [hz.1, hz.2]; exact ⟨_, _, rfl, ⟨rfl, f, (.slice A xs.length cc), hv, fun _ _ => rfl, rfl⟩, H66.sep.sub (by repeat (first | exact S1 | exact S0 | apply S2 | apply S3))⟩) | (have hz := Auction.e_full (floor := floor) hc2 hl2 hf2 hfr (by omega); rw [hz.1, hz.2]; exact ⟨_, _, rfl, ⟨rfl, f, (.slice A xs.length cc), hv, fun _ _ => rfl, rfl⟩, H66.sep.sub (by repeat (first | exact S1 | exact S0 | apply S2 | apply S3))⟩) | (have hz := Auction.e_ok (floor := floor) hc2 hl2 hf2 hfr (by omega); rw [hz.1, hz.2]; refine ⟨_, _, rfl, ⟨rfl, mset f x.round (.slice ArW (xs.length + 1) crW), .slice ArW (xs.length + 1) crW, Auction.mset_at, fun _ hq => Auction.mset_ne hq, rfl⟩, ?_⟩; rw [Auction.bdc_append, Auction.bdc_one, List.length_append]; exact (H66.only (is := [It.blk b 111 [i64 floor, .map (some h)], It.mp h (mset f x.round (.slice ArW (xs.length + 1) crW)), It.row 30 36 (.slice ArW (xs.length + 1) crW) (xs.length + 1) (Auction.bdc xs ++ Note.Bid.cells x)]) (.cons (by repeat (first | exact Ph | apply Pt)) (.cons (by repeat (first | exact Ph | apply Pt)) (.cons (by repeat (first | exact Ph | apply Pt)) (.nil _))))).sep)
          · skip
            try simp only [decide_eq_true_eq, decide_eq_false_iff_not, Bool.not_eq_true', Bool.not_eq_false', Bool.and_eq_true, Bool.not_eq_true, Bool.not_eq_false] at hc65
            have hu2 := hc65
            refine wp_skip ?_
            refine then_n ?_
            refine wp_seq ?_
            refine hreg [It.blk b1 30 (Note.Bid.cells x), It.blk b 111 [i64 floor, .map (some h)]] (fun _ h => (h.sub (by first | exact S0 | exact S1 | repeat (first | exact S1 | exact S0 | apply S2 | apply S3)))) (by kernel_rfl) H64 ?_
            clear H64; intro wx67 H67
            refine htake 0 rfl (by kernel_rfl) (y_move rfl rfl) rfl rfl rfl (fun _ h => (h.sub (by first | exact S0 | exact S1 | repeat (first | exact S1 | exact S0 | apply S2 | apply S3)))) H67 ?_
            clear H67; intro a68 H68
            refine htake 1 rfl (by kernel_rfl) (y_nilCheck rfl rfl) rfl rfl rfl (fun _ h => (h.sub (by first | exact S0 | exact S1 | repeat (first | exact S1 | exact S0 | apply S2 | apply S3)))) H68 ?_
            clear H68; intro a69 H69
            refine htake 2 rfl (by kernel_rfl) (y_fieldB rfl z_field111_1 rfl (by first | (simp only [Nat.zero_add, Nat.add_zero, Nat.reduceAdd]; rfl) | rfl)) rfl rfl rfl (fun _ h => (h.sub (by first | exact S0 | exact S1 | repeat (first | exact S1 | exact S0 | apply S2 | apply S3)))) H69 ?_
            clear H69; intro a70 H70
            refine htake 3 rfl (by kernel_rfl) (y_loadB rfl z_agg109 rfl (by repeat (first | exact Mh | apply Mt)) q_ix_c2_1) rfl rfl rfl (fun _ h => (h.sub (by first | exact S0 | exact S1 | repeat (first | exact S1 | exact S0 | apply S2 | apply S3)))) H70 ?_
            clear H70; intro a71 H71
            refine htake 4 rfl (by kernel_rfl) (y_fieldB rfl z_field30_0 rfl (by first | (simp only [Nat.zero_add, Nat.add_zero, Nat.reduceAdd]; rfl) | rfl)) rfl rfl rfl (fun _ h => (h.sub (by first | exact S0 | exact S1 | repeat (first | exact S1 | exact S0 | apply S2 | apply S3)))) H71 ?_
            clear H71; intro a72 H72
            refine htake 5 rfl (by kernel_rfl) (y_loadB rfl z_agg3 rfl (by repeat (first | exact Mh | apply Mt)) q_ix_c4b32_0) rfl rfl rfl (fun _ h => (h.sub (by first | exact S0 | exact S1 | repeat (first | exact S1 | exact S0 | apply S2 | apply S3)))) H72 ?_
            clear H72; intro a73 H73
            refine htake 6 rfl (by kernel_rfl) (y_move rfl rfl) rfl rfl rfl (fun _ h => (h.sub (by first | exact S0 | exact S1 | repeat (first | exact S1 | exact S0 | apply S2 | apply S3)))) H73 ?_
            clear H73; intro a74 H74
            refine htake 7 rfl (by kernel_rfl) (y_loadAB rfl z_agg30 z_size30 rfl (by repeat (first | exact Mh | apply Mt)) (q_ld_c4b32_0_36 (by assumption)) (q_len_c4b32 (by assumption))) rfl rfl rfl (fun _ h => (h.sub (by first | exact S0 | exact S1 | repeat (first | exact S1 | exact S0 | apply S2 | apply S3)))) H74 ?_
            clear H74; intro a75 H75
            refine hgo 8 rfl (by kernel_rfl) ?_
            refine st_buildSlice rfl Tryd.underlying22 z_size30 z_zero30 rfl rfl rfl (lay_agg (agg_cells _) (Auction.bid_len htx) (by simp)) rfl rfl rfl H75 ?_
            clear H75; intro b76 a76 wx76 H76
            refine hfinA H76.sep ?_
            refine hgo 9 rfl (by kernel_rfl) ?_
            refine st_append rfl z_slice22 z_notint22 rfl rfl (fun _ => (by repeat (first | exact Uh | apply Ut))) (fun w hs => Src.slice ((rd_blkA (by repeat (first | exact Mh | apply Mt))) w hs) (Auction.bid_len htx) (Auction.bid_cell _)) (by unfold maxLen at *; omega) (by omega) rfl rfl rfl H76 ?_
            clear H76; intro v77 a77 wx77 hnil77 H77
            obtain ⟨ArW, crW, hvrW, hRrW, hmrW⟩ := row_shape (v := v77) H77.sep (by repeat (first | exact Mh | apply Mt))
            subst hvrW
            refine hfinA H77.sep ?_
            refine hgo 10 rfl (by kernel_rfl) ?_
            refine st_mapUpdate rfl Tryd.underlying109 Tryd.underlying3 rfl rfl rfl (by repeat (first | exact Uh | apply Ut)) rfl rfl H77 ?_
            clear H77; intro wx78 H78
            refine hfinA H78.sep ?_
            refine hdone (by kernel_rfl) ?_
            refine then_n ?_
            refine wp_seq ?_
            refine reg ?_
            refine plain (y_assign rfl rfl) rfl rfl rfl H78 ?_
            clear H78; intro a79 H79
            refine fin ?_
            refine then_n ?_
            refine wp_ret ?_
            -- return 6
            refine ret1 rfl H79 rfl ?_
            first | (have hz := Auction.e_chk (floor := floor) (xs := xs) (now := now) hc1; rw [hz.1, hz.2]; exact ⟨_, _, rfl, ⟨rfl, f, (.slice A xs.length cc), hv, fun _ _ => rfl, rfl⟩, H79.sep.sub (by repeat (first | exact S1 | exact S0 | apply S2 | apply S3))⟩) | (have hz := Auction.e_late (floor := floor) (xs := xs) hc2 hl1; rw [hz.1, hz.2]; exact ⟨_, _, rfl, ⟨rfl, f, (.slice A xs.length cc), hv, fun _ _ => rfl, rfl⟩, H79.sep.sub (by repeat (first | exact S1 | exact S0 | apply S2 | apply S3))⟩) | (have hz := Auction.e_fee (floor := floor) (xs := xs) hc2 hl2 hf1; rw [hz.1, hz.2]; exact ⟨_, _, rfl, ⟨rfl, f, (.slice A xs.length cc), hv, fun _ _ => rfl, rfl⟩, H79.sep.sub (by repeat (first | exact S1 | exact S0 | apply S2 | apply S3))⟩) | (have hz := Auction.e_twice (floor := floor) (xs := xs) hc2 hl2 hf2 (Auction.not_fresh hkl ht1); rw [hz.1, hz.2]; exact ⟨_, _, rfl, ⟨rfl, f, (.slice A xs.length cc), hv, fun _ _ => rfl, rfl⟩, H79.sep.sub (by repeat (first | exact S1 | exact S0 | apply S2 | apply S3))⟩) | (have hz := Auction.e_full (floor := floor) hc2 hl2 hf2 hfr (by omega); rw [hz.1, hz.2]; exact ⟨_, _, rfl, ⟨rfl, f, (.slice A xs.length cc), hv, fun _ _ => rfl, rfl⟩, H79.sep.sub (by repeat (first | exact S1 | exact S0 | apply S2 | apply S3))⟩) | (have hz := Auction.e_ok (floor := floor) hc2 hl2 hf2 hfr (by omega); rw [hz.1, hz.2]; refine ⟨_, _, rfl, ⟨rfl, mset f x.round (.slice ArW (xs.length + 1) crW), .slice ArW (xs.length + 1) crW, Auction.mset_at, fun _ hq => Auction.mset_ne hq, rfl⟩, ?_⟩; rw [Auction.bdc_append, Auction.bdc_one, List.length_append]; exact (H79.only (is := [It.blk b 111 [i64 floor, .map (some h)], It.mp h (mset f x.round (.slice ArW (xs.length + 1) crW)), It.row 30 36 (.slice ArW (xs.length + 1) crW) (xs.length + 1) (Auction.bdc xs ++ Note.Bid.cells x)]) (.cons (by repeat (first | exact Ph | apply Pt)) (.cons (by repeat (first | exact Ph | apply Pt)) (.cons (by repeat (first | exact Ph | apply Pt)) (.nil _))))).sep)
set_option maxRecDepth 100000 in
set_option maxHeartbeats 1000000 in
theorem abidN (x : Note.Bid) (wx : Note.Bid.Wf x) (now : Int) (w : World) : Calls Tryd.prog 34 #[.pointer none, .agg (Note.Bid.cells x).toArray, .int .i64 now] w (Gives (.int .i64 1) [] w) := by
  have htx := wx.tag
  have lz32 : (List.replicate 32 (0 : UInt8)).length = 32 := List.length_replicate
  have lz0 := wx.tag
  refine enterL (args := [.pointer none, .agg (Note.Bid.cells x).toArray, .int .i64 now]) Tryd.func34 rfl rfl (l := []) (Sep.refl _) ?_
  intro a0 H0
  refine wp_seq ?_
  refine reg ?_
  refine st_box rfl rfl (agg_cells _) rfl rfl rfl H0 ?_
  clear H0; intro b1 a1 wx1 H1
  refine plain (y_assign rfl rfl) rfl rfl rfl H1 ?_
  clear H1; intro a2 H2
  refine fin ?_
  refine then_n ?_
  refine wp_seq ?_
  refine wp_seq ?_
  refine reg ?_
  refine plain (y_move rfl rfl) rfl rfl rfl H2 ?_
  clear H2; intro a3 H3
  refine plain (y_peql rfl Tryd.underlying68 rfl rfl) rfl rfl rfl H3 ?_
  clear H3; intro a4 H4
  refine fin ?_
  refine then_n ?_
  refine cnd_t H4 rfl ?_
  refine wp_seq ?_
  refine reg ?_
  refine plain (y_assign rfl rfl) rfl rfl rfl H4 ?_
  clear H4; intro a6 H6
  refine fin ?_
  refine then_n ?_
  refine wp_ret ?_
  refine then_r ?_
  -- return 1
  refine ret1 rfl H6 rfl ?_
  exact ⟨_, [], rfl, ⟨rfl, rfl⟩, H6.sep.sub (List.nil_sublist _)⟩
set_option maxRecDepth 100000 in
set_option maxHeartbeats 1000000 in
theorem abids (floor : Int) (xs : List Note.Bid) (hx : Auction.Wfb xs) (hxl : xs.length ≤ 1000) (f : Int → Option Value) (v : Value) (b h : Nat) (r : Int) (hv : (f r).getD (.slice none 0 0 : Value) = v) {w : World} (hb : (It.blk b 111 [i64 floor, .map (some h)]).P w) (hh : (It.mp h f).P w) (hr : (It.row 30 36 v xs.length (Auction.bdc xs)).P w) : Calls Tryd.prog 35 #[.pointer (some ⟨b, 0, none⟩), .int .i64 r] w (Post [] w fun u l' => l' = [It.row 30 36 u xs.length (Auction.bdc xs)]) := by
  obtain ⟨A, cc, rfl, hR, hmx⟩ := Row.rd hr
  have lz32 : (List.replicate 32 (0 : UInt8)).length = 32 := List.length_replicate
  refine enterL (args := [.pointer (some ⟨b, 0, none⟩), .int .i64 r]) Tryd.func35 rfl rfl (l := []) (Sep.refl _) ?_
  intro a0 H0
  refine wp_seq ?_
  refine reg ?_
  refine plain (y_assign rfl rfl) rfl rfl rfl H0 ?_
  clear H0; intro a1 H1
  refine fin ?_
  refine then_n ?_
  refine wp_seq ?_
  refine wp_seq ?_
  refine reg ?_
  refine plain (y_move rfl rfl) rfl rfl rfl H1 ?_
  clear H1; intro a2 H2
  refine plain (y_peql rfl Tryd.underlying68 rfl rfl) rfl rfl rfl H2 ?_
  clear H2; intro a3 H3
  refine fin ?_
  refine then_n ?_
  refine cnd_f H3 rfl ?_
  refine wp_skip ?_
  refine then_n ?_
  refine wp_seq ?_
  refine reg ?_
  refine st_buildSlice rfl Tryd.underlying22 z_size30 z_zero30 rfl rfl rfl (show _ = some ([] : List Value) from rfl) rfl rfl rfl H3 ?_
  clear H3; intro b5 a5 wx5 H5
  refine plain (y_move rfl rfl) rfl rfl rfl H5 ?_
  clear H5; intro a6 H6
  refine plain (y_nilCheck rfl rfl) rfl rfl rfl H6 ?_
  clear H6; intro a7 H7
  refine plain (y_fieldB rfl z_field111_1 rfl (by first | (simp only [Nat.zero_add, Nat.add_zero, Nat.reduceAdd]; rfl) | rfl)) rfl rfl rfl H7 ?_
  clear H7; intro a8 H8
  refine plain (y_loadO rfl z_agg109 rfl (blk_cell hb (by rfl)) (by simp)) rfl rfl rfl H8 ?_
  clear H8; intro a9 H9
  refine plain (y_move rfl rfl) rfl rfl rfl H9 ?_
  clear H9; intro a10 H10
  refine plain (y_lookupO rfl Tryd.underlying109 Tryd.underlying3 z_zval22 rfl rfl hh) rfl rfl rfl H10 ?_
  clear H10; intro a11 H11
  replace H11 := H11.asRow (b := b5) (size := 36) (m := 0) (by repeat (first | exact Uh | apply Ut)) rfl (by unfold maxLen; omega)
  replace H11 := H11.know (d := 13) rfl hv
  refine st_append rfl z_slice22 z_notint22 rfl rfl (fun _ => (by repeat (first | exact Uh | apply Ut))) (fun w hs => Src.slice (rd_old hR (by simp) w hs) (Auction.bdc_len hx) (Auction.bdc_cell _)) (by unfold maxLen at *; first | omega | (simp only [List.length_cons, List.length_nil, List.length_append, List.length_map]; omega)) (by omega) rfl rfl rfl H11 ?_
  clear H11; intro v12 a12 wx12 hnil12 H12
  obtain ⟨Ar12, cr12, hvr12, hRr12, hmr12⟩ := row_shape (v := v12) H12.sep (by repeat (first | exact Mh | apply Mt))
  subst hvr12
  refine plain (y_assign rfl rfl) rfl rfl rfl H12 ?_
  clear H12; intro a13 H13
  refine fin ?_
  refine then_n ?_
  refine wp_ret ?_
  -- return 1
  refine ret1 rfl H13 rfl ?_
  have hsx := H13.sep
  simp only [List.nil_append, Nat.zero_add] at hsx
  exact ⟨_, _, rfl, rfl, by simpa using hsx⟩
set_option maxRecDepth 100000 in
set_option maxHeartbeats 1000000 in
theorem abidsN (r : Int) (w : World) : Calls Tryd.prog 35 #[.pointer none, .int .i64 r] w (Gives (.slice none 0 0) [] w) := by
  have lz32 : (List.replicate 32 (0 : UInt8)).length = 32 := List.length_replicate
  refine enterL (args := [.pointer none, .int .i64 r]) Tryd.func35 rfl rfl (l := []) (Sep.refl _) ?_
  intro a0 H0
  refine wp_seq ?_
  refine reg ?_
  refine plain (y_assign rfl rfl) rfl rfl rfl H0 ?_
  clear H0; intro a1 H1
  refine fin ?_
  refine then_n ?_
  refine wp_seq ?_
  refine wp_seq ?_
  refine reg ?_
  refine plain (y_move rfl rfl) rfl rfl rfl H1 ?_
  clear H1; intro a2 H2
  refine plain (y_peql rfl Tryd.underlying68 rfl rfl) rfl rfl rfl H2 ?_
  clear H2; intro a3 H3
  refine fin ?_
  refine then_n ?_
  refine cnd_t H3 rfl ?_
  refine wp_seq ?_
  refine reg ?_
  refine plain (y_assign rfl rfl) rfl rfl rfl H3 ?_
  clear H3; intro a5 H5
  refine fin ?_
  refine then_n ?_
  refine wp_ret ?_
  refine then_r ?_
  -- return 1
  refine ret1 rfl H5 rfl ?_
  exact ⟨_, [], rfl, ⟨rfl, rfl⟩, H5.sep.sub (List.nil_sublist _)⟩

end Go.Proofs.YtaeahloenahelaaDoor.A_Bo1

set_option linter.unusedVariables false
set_option linter.unusedSimpArgs false
namespace Go.Proofs.YtaeahloenahelaaDoor.A_Bo2
open Go.Sx Go.RowKit Go.Proofs.YtaeahloenahelaaDoor.A_Block Go.Proofs.YtaeahloenahelaaDoor.A_Sum Go.Proofs.YtaeahloenahelaaDoor.A_Ref Go.Proofs.YtaeahloenahelaaDoor.A_RSum Go.Proofs.YtaeahloenahelaaDoor.A_Leaf Go.Proofs.YtaeahloenahelaaDoor.A_Num Go.Proofs.YtaeahloenahelaaDoor.A_Key Go.Proofs.YtaeahloenahelaaDoor.A_Ref Go.Proofs.YtaeahloenahelaaDoor.A_RSum Go.Proofs.YtaeahloenahelaaDoor.A_Tag Go.Proofs.YtaeahloenahelaaDoor.A_Lay Go.Proofs.YtaeahloenahelaaDoor.A_Eq Go.Proofs.YtaeahloenahelaaDoor.A_Ref0 Go.Proofs.YtaeahloenahelaaDoor.A_Sign Go.Proofs.YtaeahloenahelaaDoor.A_RefB Go.Proofs.YtaeahloenahelaaDoor.A_Win Go.Proofs.YtaeahloenahelaaDoor.A_RWin Go.Proofs.YtaeahloenahelaaDoor.A_Law Go.Proofs.YtaeahloenahelaaDoor.A_EqW Go.Proofs.YtaeahloenahelaaDoor.A_RCnt Go.Proofs.YtaeahloenahelaaDoor.A_Bk1

theorem z_zeroN32 : zeroL Tryd.prog 32 = some ((.int .i64 0 :: (.int .i64 0 :: (.int .i64 0 :: (.int .i64 0 :: ((List.replicate 32 (0 : UInt8)).map u8 ++ (.int .i64 0 :: []))))))) := by kernel_rfl
theorem z_field111_1 : fieldB Tryd.prog 111 1 = some 1 := by kernel_rfl
theorem z_agg109 : aggB Tryd.prog 109 = some false := by kernel_rfl
theorem q_ix_c2_1 {a0 a1 : Value} : (a0 :: a1 :: [])[1]? = some a1 := (ix_c (o := 0) ix_0)
theorem z_zval22 : (Tryd.prog.info? 22).bind (·.zero) = some (.slice none 0 0) := by kernel_rfl
theorem z_field111_0 : fieldB Tryd.prog 111 0 = some 0 := by kernel_rfl
theorem z_agg3 : aggB Tryd.prog 3 = some false := by kernel_rfl
theorem q_ix_c2_0 {a0 a1 : Value} : (a0 :: a1 :: [])[0]? = some a0 := ix_0
theorem z_call13 : callB Tryd.prog 13 = true := by kernel_rfl
theorem z_size32 : sizeB Tryd.prog 32 = some 37 := by kernel_rfl
theorem q_one_c4b32c1 {a0 a1 a2 a3 a5 : Value} {t4 : List UInt8} (o0 : a0.oneCell' = true) (o1 : a1.oneCell' = true) (o2 : a2.oneCell' = true) (o3 : a3.oneCell' = true) (o5 : a5.oneCell' = true) : (a0 :: a1 :: a2 :: a3 :: (t4.map u8 ++ (a5 :: []))).all (·.oneCell') = true := (one_c o0 (one_c o1 (one_c o2 (one_c o3 (one_b (one_c o5 one_n))))))
theorem q_len_c4b32c1 {a0 a1 a2 a3 a5 : Value} {t4 : List UInt8} (h4 : t4.length = 32) : (a0 :: a1 :: a2 :: a3 :: (t4.map u8 ++ (a5 :: []))).length = 37 := (len_c (n := 36) (len_c (n := 35) (len_c (n := 34) (len_c (n := 33) (len_b (k := 32) (n := 1) h4 (len_c (n := 0) len_n))))))
theorem q_spl_c4b32c1_0_c4b32c1 {a0 a1 a2 a3 a5 : Value} {t4 : List UInt8} {b0 b1 b2 b3 b5 : Value} {s4 : List UInt8} (h4 : t4.length = 32) (g4 : s4.length = 32) : spl (a0 :: a1 :: a2 :: a3 :: (t4.map u8 ++ (a5 :: []))) 0 (b0 :: b1 :: b2 :: b3 :: (s4.map u8 ++ (b5 :: []))) = b0 :: b1 :: b2 :: b3 :: (s4.map u8 ++ (b5 :: [])) := (spl_a (z := 37) (len_c (n := 36) (len_c (n := 35) (len_c (n := 34) (len_c (n := 33) (len_b (k := 32) (n := 1) h4 (len_c (n := 0) len_n)))))) (len_c (n := 36) (len_c (n := 35) (len_c (n := 34) (len_c (n := 33) (len_b (k := 32) (n := 1) g4 (len_c (n := 0) len_n)))))))
theorem z_field32_0 : fieldB Tryd.prog 32 0 = some 0 := by kernel_rfl
theorem z_field30_1 : fieldB Tryd.prog 30 1 = some 1 := by kernel_rfl
theorem q_ix_c4b32c1_1 {a0 a1 a2 a3 a5 : Value} {t4 : List UInt8} : (a0 :: a1 :: a2 :: a3 :: (t4.map u8 ++ (a5 :: [])))[1]? = some a1 := (ix_c (o := 0) ix_0)
theorem z_field32_1 : fieldB Tryd.prog 32 1 = some 36 := by kernel_rfl
theorem q_ix_c4b32c1_36 {a0 a1 a2 a3 a5 : Value} {t4 : List UInt8} (h4 : t4.length = 32) : (a0 :: a1 :: a2 :: a3 :: (t4.map u8 ++ (a5 :: [])))[36]? = some a5 := (ix_c (o := 35) (ix_c (o := 34) (ix_c (o := 33) (ix_c (o := 32) (ix_b (k := 32) (o := 0) h4 rfl ix_0)))))
theorem z_agg32 : aggB Tryd.prog 32 = some true := by kernel_rfl
theorem q_ld_c4b32c1_0_37 {a0 a1 a2 a3 a5 : Value} {t4 : List UInt8} (h4 : t4.length = 32) : ((a0 :: a1 :: a2 :: a3 :: (t4.map u8 ++ (a5 :: []))).drop 0).take 37 = a0 :: a1 :: a2 :: a3 :: (t4.map u8 ++ (a5 :: [])) := (ld_a (len_c (n := 36) (len_c (n := 35) (len_c (n := 34) (len_c (n := 33) (len_b (k := 32) (n := 1) h4 (len_c (n := 0) len_n)))))))
theorem z_places32 : placesB Tryd.prog 32 = some [(0, 36), (36, 1)] := by kernel_rfl

set_option maxRecDepth 100000 in
set_option maxHeartbeats 1000000 in
theorem acloseN (r : Int) (u : Value) (w : World) : Calls Tryd.prog 31 #[.pointer none, .int .i64 r, u] w (Gives (.tuple #[.agg (Auction.Win.cells Auction.Win.zero).toArray, .bool false]) [] w) := by
  have hZl : Note.Z.length = 32 := Note.Z_len
  have lz32 : (List.replicate 32 (0 : UInt8)).length = 32 := List.length_replicate
  refine enterL (args := [.pointer none, .int .i64 r, u]) Tryd.func31 rfl rfl (l := []) (Sep.refl _) ?_
  intro a0 H0
  refine wp_seq ?_
  refine reg ?_
  refine st_alloc rfl z_zeroN32 rfl rfl rfl H0 ?_
  clear H0; intro b1 a1 wx1 H1
  refine plain (y_assign rfl rfl) rfl rfl rfl H1 ?_
  clear H1; intro a2 H2
  refine fin ?_
  refine then_n ?_
  refine wp_seq ?_
  refine wp_seq ?_
  refine reg ?_
  refine plain (y_move rfl rfl) rfl rfl rfl H2 ?_
  clear H2; intro a3 H3
  refine plain (y_peql rfl Tryd.underlying68 rfl rfl) rfl rfl rfl H3 ?_
  clear H3; intro a4 H4
  refine plain (y_move rfl rfl) rfl rfl rfl H4 ?_
  clear H4; intro a5 H5
  have H7 := H5.know (d := 12) (v := .bool true) rfl (rfl)
  clear H5
  refine skip rfl rfl rfl H7 ?_
  clear H7; intro a8 H8
  refine skip rfl rfl rfl H8 ?_
  clear H8; intro a9 H9
  refine plain (y_pick_t rfl rfl rfl) rfl rfl rfl H9 ?_
  clear H9; intro a10 H10
  refine fin ?_
  refine then_n ?_
  refine cnd_t H10 rfl ?_
  refine wp_seq ?_
  refine reg ?_
  refine plain (y_build rfl z_zeroN32 z_places32 rfl lay_n) rfl rfl rfl H10 ?_
  clear H10; intro a12 H12
  refine st_storeN rfl z_size32 rfl rfl (agg_cells _) (by repeat (first | exact Uh | apply Ut)) (q_one_c4b32c1 rfl rfl rfl rfl rfl) (q_len_c4b32c1 (by assumption)) (q_len_c4b32c1 (by assumption)) (q_spl_c4b32c1_0_c4b32c1 (by assumption) (by assumption)) (by decide) rfl rfl H12 ?_
  clear H12; intro wx13 H13
  refine plain (y_assign rfl rfl) rfl rfl rfl H13 ?_
  clear H13; intro a14 H14
  refine fin ?_
  refine then_n ?_
  refine wp_ret ?_
  refine then_r ?_
  -- return 1
  refine retct rfl H14 rfl z_agg32 z_size32 (by repeat (first | exact Mh | apply Mt)) (q_len_c4b32c1 (by assumption)) rfl ?_
  exact ⟨_, [], rfl, ⟨rfl, rfl⟩, H14.sep.sub (List.nil_sublist _)⟩
set_option maxRecDepth 100000 in
set_option maxHeartbeats 1000000 in
theorem acloseK (b : Nat) (r : Int) (w : World) : Calls Tryd.prog 31 #[.pointer (some ⟨b, 0, none⟩), .int .i64 r, .pointer none] w (Gives (.tuple #[.agg (Auction.Win.cells Auction.Win.zero).toArray, .bool false]) [] w) := by
  have hZl : Note.Z.length = 32 := Note.Z_len
  have lz32 : (List.replicate 32 (0 : UInt8)).length = 32 := List.length_replicate
  refine enterL (args := [.pointer (some ⟨b, 0, none⟩), .int .i64 r, .pointer none]) Tryd.func31 rfl rfl (l := []) (Sep.refl _) ?_
  intro a0 H0
  refine wp_seq ?_
  refine reg ?_
  refine st_alloc rfl z_zeroN32 rfl rfl rfl H0 ?_
  clear H0; intro b1 a1 wx1 H1
  refine plain (y_assign rfl rfl) rfl rfl rfl H1 ?_
  clear H1; intro a2 H2
  refine fin ?_
  refine then_n ?_
  refine wp_seq ?_
  refine wp_seq ?_
  refine reg ?_
  refine plain (y_move rfl rfl) rfl rfl rfl H2 ?_
  clear H2; intro a3 H3
  refine plain (y_peql rfl Tryd.underlying68 rfl rfl) rfl rfl rfl H3 ?_
  clear H3; intro a4 H4
  refine plain (y_move rfl rfl) rfl rfl rfl H4 ?_
  clear H4; intro a5 H5
  have H7 := H5.know (d := 12) (v := .bool false) rfl (rfl)
  clear H5
  refine plain (y_move rfl rfl) rfl rfl rfl H7 ?_
  clear H7; intro a8 H8
  refine plain (y_peql rfl Tryd.underlying70 rfl rfl) rfl rfl rfl H8 ?_
  clear H8; intro a9 H9
  refine plain (y_pick_f rfl rfl rfl) rfl rfl rfl H9 ?_
  clear H9; intro a10 H10
  refine fin ?_
  refine then_n ?_
  refine cnd_t H10 rfl ?_
  refine wp_seq ?_
  refine reg ?_
  refine plain (y_build rfl z_zeroN32 z_places32 rfl lay_n) rfl rfl rfl H10 ?_
  clear H10; intro a12 H12
  refine st_storeN rfl z_size32 rfl rfl (agg_cells _) (by repeat (first | exact Uh | apply Ut)) (q_one_c4b32c1 rfl rfl rfl rfl rfl) (q_len_c4b32c1 (by assumption)) (q_len_c4b32c1 (by assumption)) (q_spl_c4b32c1_0_c4b32c1 (by assumption) (by assumption)) (by decide) rfl rfl H12 ?_
  clear H12; intro wx13 H13
  refine plain (y_assign rfl rfl) rfl rfl rfl H13 ?_
  clear H13; intro a14 H14
  refine fin ?_
  refine then_n ?_
  refine wp_ret ?_
  refine then_r ?_
  -- return 1
  refine retct rfl H14 rfl z_agg32 z_size32 (by repeat (first | exact Mh | apply Mt)) (q_len_c4b32c1 (by assumption)) rfl ?_
  exact ⟨_, [], rfl, ⟨rfl, rfl⟩, H14.sep.sub (List.nil_sublist _)⟩

end Go.Proofs.YtaeahloenahelaaDoor.A_Bo2

set_option linter.unusedVariables false
set_option linter.unusedSimpArgs false
namespace Go.Proofs.YtaeahloenahelaaDoor.A_Xb1
open Go.Sx Go.RowKit Go.Proofs.YtaeahloenahelaaDoor.A_Block Go.Proofs.YtaeahloenahelaaDoor.A_Sum Go.Proofs.YtaeahloenahelaaDoor.A_Ref Go.Proofs.YtaeahloenahelaaDoor.A_RSum Go.Proofs.YtaeahloenahelaaDoor.A_Leaf Go.Proofs.YtaeahloenahelaaDoor.A_Num Go.Proofs.YtaeahloenahelaaDoor.A_Key Go.Proofs.YtaeahloenahelaaDoor.A_Ref Go.Proofs.YtaeahloenahelaaDoor.A_RSum Go.Proofs.YtaeahloenahelaaDoor.A_Tag Go.Proofs.YtaeahloenahelaaDoor.A_Lay Go.Proofs.YtaeahloenahelaaDoor.A_Eq Go.Proofs.YtaeahloenahelaaDoor.A_Ref0 Go.Proofs.YtaeahloenahelaaDoor.A_Sign Go.Proofs.YtaeahloenahelaaDoor.A_RefB

theorem z_size30 : sizeB Tryd.prog 30 = some 36 := by kernel_rfl
theorem z_field30_0 : fieldB Tryd.prog 30 0 = some 0 := by kernel_rfl
theorem z_agg3 : aggB Tryd.prog 3 = some false := by kernel_rfl
theorem z_agg30 : aggB Tryd.prog 30 = some true := by kernel_rfl
theorem z_zero30 : zeroL Tryd.prog 30 = some ([.int .i64 0, .int .i64 0, .int .i64 0, .int .i64 0, .int .u8 0, .int .u8 0, .int .u8 0, .int .u8 0, .int .u8 0, .int .u8 0, .int .u8 0, .int .u8 0, .int .u8 0, .int .u8 0, .int .u8 0, .int .u8 0, .int .u8 0, .int .u8 0, .int .u8 0, .int .u8 0, .int .u8 0, .int .u8 0, .int .u8 0, .int .u8 0, .int .u8 0, .int .u8 0, .int .u8 0, .int .u8 0, .int .u8 0, .int .u8 0, .int .u8 0, .int .u8 0, .int .u8 0, .int .u8 0, .int .u8 0, .int .u8 0]) := by kernel_rfl
theorem z_slice22 : sliceB Tryd.prog 22 = some (30, 36, 64) := by kernel_rfl
theorem z_notint22 : notIntB Tryd.prog 22 = true := by kernel_rfl
theorem q_ld_c4b32_0_36 {a0 a1 a2 a3 : Value} {t4 : List UInt8} (h4 : t4.length = 32) : ((a0 :: a1 :: a2 :: a3 :: t4.map u8).drop 0).take 36 = a0 :: a1 :: a2 :: a3 :: t4.map u8 := (ld_a (len_c (n := 35) (len_c (n := 34) (len_c (n := 33) (len_c (n := 32) (len_e (k := 32) h4))))))
theorem q_len_c4b32 {a0 a1 a2 a3 : Value} {t4 : List UInt8} (h4 : t4.length = 32) : (a0 :: a1 :: a2 :: a3 :: t4.map u8).length = 36 := (len_c (n := 35) (len_c (n := 34) (len_c (n := 33) (len_c (n := 32) (len_e (k := 32) h4)))))
theorem q_ix_c4b32_0 {a0 a1 a2 a3 : Value} {t4 : List UInt8} : (a0 :: a1 :: a2 :: a3 :: t4.map u8)[0]? = some a0 := ix_0
theorem z_field30_2 : fieldB Tryd.prog 30 2 = some 2 := by kernel_rfl
theorem q_ix_c4b32_2 {a0 a1 a2 a3 : Value} {t4 : List UInt8} : (a0 :: a1 :: a2 :: a3 :: t4.map u8)[2]? = some a2 := (ix_c (o := 1) (ix_c (o := 0) ix_0))
theorem q_ix_c2_0 {a0 a1 : Value} : (a0 :: a1 :: [])[0]? = some a0 := ix_0
theorem z_field30_1 : fieldB Tryd.prog 30 1 = some 1 := by kernel_rfl
theorem q_ix_c4b32_1 {a0 a1 a2 a3 : Value} {t4 : List UInt8} : (a0 :: a1 :: a2 :: a3 :: t4.map u8)[1]? = some a1 := (ix_c (o := 0) ix_0)
theorem q_ix_c2_1 {a0 a1 : Value} : (a0 :: a1 :: [])[1]? = some a1 := (ix_c (o := 0) ix_0)
theorem q_len_c2 {a0 a1 : Value} : (a0 :: a1 :: []).length = 2 := (len_c (n := 1) (len_c (n := 0) len_n))
set_option maxRecDepth 100000 in
set_option maxHeartbeats 1000000 in
theorem xsame (L : List Note.Bid) (hL : Auction.Wfb L) (A B : Option Addr) (c e : Nat) (hlen : L.length ≤ 1000) {w : World} (hR : Rd w A (Auction.bdc L)) (hR2 : Rd w B (Auction.bdc L)) : Calls Tryd.prog 36 #[.slice A L.length c, .slice B L.length e] w (Gives (.bool true) [] w) := by
  have lz32 : (List.replicate 32 (0 : UInt8)).length = 32 := List.length_replicate
  refine enterL (args := [.slice A L.length c, .slice B L.length e]) Tryd.func36 rfl rfl (l := []) (Sep.refl _) ?_
  intro a0 H0
  refine wp_seq ?_
  refine reg ?_
  refine plain (y_assign rfl rfl) rfl rfl rfl H0 ?_
  clear H0; intro a1 H1
  refine fin ?_
  refine then_n ?_
  refine wp_seq ?_
  refine wp_seq ?_
  refine reg ?_
  refine plain (y_move rfl rfl) rfl rfl rfl H1 ?_
  clear H1; intro a2 H2
  refine plain (y_len rfl Tryd.underlying22 rfl) rfl rfl rfl H2 ?_
  clear H2; intro a3 H3
  refine plain (y_move rfl rfl) rfl rfl rfl H3 ?_
  clear H3; intro a4 H4
  refine plain (y_len rfl Tryd.underlying22 rfl) rfl rfl rfl H4 ?_
  clear H4; intro a5 H5
  refine plain (y_neq rfl rfl rfl) rfl rfl rfl H5 ?_
  clear H5; intro a6 H6
  refine fin ?_
  refine then_n ?_
  refine cnd H6 rfl (fun hc7 => ?_) (fun hc7 => ?_) -- cond 1
  · (try simp only [decide_eq_true_eq, decide_eq_false_iff_not, Bool.not_eq_true', Bool.not_eq_false', Bool.and_eq_true, Bool.not_eq_true, Bool.not_eq_false] at hc7); (exfalso; first | exact hc7 rfl | exact hc7 trivial | simp at hc7)
  · skip
    try simp only [decide_eq_true_eq, decide_eq_false_iff_not, Bool.not_eq_true', Bool.not_eq_false', Bool.and_eq_true, Bool.not_eq_true, Bool.not_eq_false] at hc7
    refine wp_skip ?_
    refine then_n ?_
    refine wp_seq ?_
    refine wp_seq ?_
    refine reg ?_
    refine plain (y_assign rfl rfl) rfl rfl rfl H6 ?_
    clear H6; intro a8 H8
    refine fin ?_
    refine then_n ?_
    refine wp_block ?_
    refine loop (ι := Nat) (fun k => [(0, .slice A L.length c), (1, .slice B L.length e), (5, .int .i64 (k : Int))]) (fun k => []) (fun k => k ≤ L.length) (fun k => L.length - k) (0) (Nat.zero_le _) (H8.weak ⟨rfl, rfl, rfl, trivial⟩ rfl) ?_
    clear H8; intro k a9 wx9 hok9 H9
    have hok := hok9
    refine wp_seq ?_
    refine wp_seq ?_
    refine reg ?_
    refine plain (y_move rfl rfl) rfl rfl rfl H9 ?_
    clear H9; intro a10 H10
    refine plain (y_move rfl rfl) rfl rfl rfl H10 ?_
    clear H10; intro a11 H11
    refine plain (y_len rfl Tryd.underlying22 rfl) rfl rfl rfl H11 ?_
    clear H11; intro a12 H12
    refine plain (y_lss rfl rfl rfl) rfl rfl rfl H12 ?_
    clear H12; intro a13 H13
    refine fin ?_
    refine then_n ?_
    refine cnd H13 rfl (fun hc14 => ?_) (fun hc14 => ?_) -- cond 2
    · skip
      try simp only [decide_eq_true_eq, decide_eq_false_iff_not, Bool.not_eq_true', Bool.not_eq_false', Bool.and_eq_true, Bool.not_eq_true, Bool.not_eq_false] at hc14
      refine wp_skip ?_
      refine then_n ?_
      refine wp_seq ?_
      refine wp_block ?_
      refine wp_seq ?_
      have hkl : k < L.length := by omega
      have hwk := Auction.atD hL hkl
      have htg := hwk.tag
      refine qreg (by kernel_rfl) (by kernel_rfl) H13 ?_
      have F15 := H13.fr
      clear H13
      refine qplain (y_move rfl rfl) rfl rfl rfl F15 ?_
      clear F15; intro a16 H16
      refine qplain (y_move rfl rfl) rfl rfl rfl H16 ?_
      clear H16; intro a17 H17
      refine qplain (y_ixR rfl Tryd.underlying22 z_size30 rfl rfl (by omega) (by omega) (rd_old hR (by simp)) (by rw [Auction.bdc_len hL]; omega)) rfl rfl rfl H17 ?_
      clear H17; intro a18 H18
      refine qplain (y_loadAS rfl z_agg30 z_size30 rfl (rd_old hR (by simp)) (show _ = Note.Bid.cells (L.getD k Note.Bid.zero) from Auction.bdc_take hL k (by omega)) (Auction.bid_len htg) (by decide)) rfl rfl rfl H18 ?_
      clear H18; intro a19 H19
      refine qplain (y_move rfl rfl) rfl rfl rfl H19 ?_
      clear H19; intro a20 H20
      refine qplain (y_move rfl rfl) rfl rfl rfl H20 ?_
      clear H20; intro a21 H21
      refine qplain (y_ixR rfl Tryd.underlying22 z_size30 rfl rfl (by omega) (by omega) (rd_old hR2 (by simp)) (by rw [Auction.bdc_len hL]; omega)) rfl rfl rfl H21 ?_
      clear H21; intro a22 H22
      refine qplain (y_loadAS rfl z_agg30 z_size30 rfl (rd_old hR2 (by simp)) (show _ = Note.Bid.cells (L.getD k Note.Bid.zero) from Auction.bdc_take hL k (by omega)) (Auction.bid_len htg) (by decide)) rfl rfl rfl H22 ?_
      clear H22; intro a23 H23
      refine qplain (y_tneq rfl (by kernel_rfl) rfl rfl (eqr_Bid (L.getD k Note.Bid.zero) (L.getD k Note.Bid.zero) htg htg)) rfl rfl rfl H23 ?_
      clear H23; intro a24 H24
      refine qfin H24 ?_
      clear H24; intro wx25 H25
      refine then_n ?_
      refine cnd H25 rfl (fun hc26 => ?_) (fun hc26 => ?_) -- cond 3
      · (try simp only [decide_eq_true_eq, decide_eq_false_iff_not, Bool.not_eq_true', Bool.not_eq_false', Bool.and_eq_true, Bool.not_eq_true, Bool.not_eq_false] at hc26); (exfalso; first | exact hc26 rfl | exact hc26 trivial | simp at hc26)
      · skip
        try simp only [decide_eq_true_eq, decide_eq_false_iff_not, Bool.not_eq_true', Bool.not_eq_false', Bool.and_eq_true, Bool.not_eq_true, Bool.not_eq_false] at hc26
        refine wp_skip ?_
        refine inb_n ?_
        refine then_n ?_
        refine reg ?_
        refine plain (y_move rfl rfl) rfl rfl rfl H25 ?_
        clear H25; intro a27 H27
        refine plain (y_add rfl rfl rfl (by first | exact w64 (by omega) (by omega) | rfl)) rfl rfl rfl H27 ?_
        clear H27; intro a28 H28
        refine plain (y_assign rfl rfl) rfl rfl rfl H28 ?_
        clear H28; intro a29 H29
        refine fin ?_
        refine then_n ?_
        refine ⟨k + 1, by omega, by omega, H29.weak ⟨rfl, rfl, fi rfl (by omega), trivial⟩ rfl⟩
    · skip
      try simp only [decide_eq_true_eq, decide_eq_false_iff_not, Bool.not_eq_true', Bool.not_eq_false', Bool.and_eq_true, Bool.not_eq_true, Bool.not_eq_false] at hc14
      refine wp_exit ?_
      refine then_x ?_
      refine then_x ?_
      refine inb_hit ?_
      refine then_n ?_
      refine wp_seq ?_
      refine reg ?_
      refine plain (y_assign rfl rfl) rfl rfl rfl H13 ?_
      clear H13; intro a30 H30
      refine fin ?_
      refine then_n ?_
      refine wp_ret ?_
      -- return 1
      refine ret1 rfl H30 rfl ?_
      exact ⟨_, [], rfl, ⟨rfl, rfl⟩, H30.sep.sub (List.nil_sublist _)⟩

end Go.Proofs.YtaeahloenahelaaDoor.A_Xb1

set_option linter.unusedVariables false
set_option linter.unusedSimpArgs false
namespace Go.Proofs.YtaeahloenahelaaDoor.A_Xb2
open Go.Sx Go.RowKit Go.Proofs.YtaeahloenahelaaDoor.A_Block Go.Proofs.YtaeahloenahelaaDoor.A_Sum Go.Proofs.YtaeahloenahelaaDoor.A_Ref Go.Proofs.YtaeahloenahelaaDoor.A_RSum Go.Proofs.YtaeahloenahelaaDoor.A_Leaf Go.Proofs.YtaeahloenahelaaDoor.A_Num Go.Proofs.YtaeahloenahelaaDoor.A_Key Go.Proofs.YtaeahloenahelaaDoor.A_Ref Go.Proofs.YtaeahloenahelaaDoor.A_RSum Go.Proofs.YtaeahloenahelaaDoor.A_Tag Go.Proofs.YtaeahloenahelaaDoor.A_Lay Go.Proofs.YtaeahloenahelaaDoor.A_Eq Go.Proofs.YtaeahloenahelaaDoor.A_Ref0 Go.Proofs.YtaeahloenahelaaDoor.A_Sign Go.Proofs.YtaeahloenahelaaDoor.A_RefB Go.Proofs.YtaeahloenahelaaDoor.A_Win Go.Proofs.YtaeahloenahelaaDoor.A_RWin Go.Proofs.YtaeahloenahelaaDoor.A_Law Go.Proofs.YtaeahloenahelaaDoor.A_EqW Go.Proofs.YtaeahloenahelaaDoor.A_RCnt Go.Proofs.YtaeahloenahelaaDoor.A_Bk2 Go.Proofs.YtaeahloenahelaaDoor.A_Xb1

theorem z_zeroN32 : zeroL Tryd.prog 32 = some ((.int .i64 0 :: (.int .i64 0 :: (.int .i64 0 :: (.int .i64 0 :: ((List.replicate 32 (0 : UInt8)).map u8 ++ (.int .i64 0 :: []))))))) := by kernel_rfl
theorem z_agg3 : aggB Tryd.prog 3 = some false := by kernel_rfl
theorem q_ix_c2_0 {a0 a1 : Value} : (a0 :: a1 :: [])[0]? = some a0 := ix_0
theorem z_size32 : sizeB Tryd.prog 32 = some 37 := by kernel_rfl
theorem q_one_c4b32c1 {a0 a1 a2 a3 a5 : Value} {t4 : List UInt8} (o0 : a0.oneCell' = true) (o1 : a1.oneCell' = true) (o2 : a2.oneCell' = true) (o3 : a3.oneCell' = true) (o5 : a5.oneCell' = true) : (a0 :: a1 :: a2 :: a3 :: (t4.map u8 ++ (a5 :: []))).all (·.oneCell') = true := (one_c o0 (one_c o1 (one_c o2 (one_c o3 (one_b (one_c o5 one_n))))))
theorem q_len_c4b32c1 {a0 a1 a2 a3 a5 : Value} {t4 : List UInt8} (h4 : t4.length = 32) : (a0 :: a1 :: a2 :: a3 :: (t4.map u8 ++ (a5 :: []))).length = 37 := (len_c (n := 36) (len_c (n := 35) (len_c (n := 34) (len_c (n := 33) (len_b (k := 32) (n := 1) h4 (len_c (n := 0) len_n))))))
theorem q_spl_c4b32c1_0_c4b32c1 {a0 a1 a2 a3 a5 : Value} {t4 : List UInt8} {b0 b1 b2 b3 b5 : Value} {s4 : List UInt8} (h4 : t4.length = 32) (g4 : s4.length = 32) : spl (a0 :: a1 :: a2 :: a3 :: (t4.map u8 ++ (a5 :: []))) 0 (b0 :: b1 :: b2 :: b3 :: (s4.map u8 ++ (b5 :: []))) = b0 :: b1 :: b2 :: b3 :: (s4.map u8 ++ (b5 :: [])) := (spl_a (z := 37) (len_c (n := 36) (len_c (n := 35) (len_c (n := 34) (len_c (n := 33) (len_b (k := 32) (n := 1) h4 (len_c (n := 0) len_n)))))) (len_c (n := 36) (len_c (n := 35) (len_c (n := 34) (len_c (n := 33) (len_b (k := 32) (n := 1) g4 (len_c (n := 0) len_n)))))))
theorem q_ix_c2_1 {a0 a1 : Value} : (a0 :: a1 :: [])[1]? = some a1 := (ix_c (o := 0) ix_0)
theorem z_size30 : sizeB Tryd.prog 30 = some 36 := by kernel_rfl
theorem z_field30_0 : fieldB Tryd.prog 30 0 = some 0 := by kernel_rfl
theorem z_agg30 : aggB Tryd.prog 30 = some true := by kernel_rfl
theorem z_zero30 : zeroL Tryd.prog 30 = some ([.int .i64 0, .int .i64 0, .int .i64 0, .int .i64 0, .int .u8 0, .int .u8 0, .int .u8 0, .int .u8 0, .int .u8 0, .int .u8 0, .int .u8 0, .int .u8 0, .int .u8 0, .int .u8 0, .int .u8 0, .int .u8 0, .int .u8 0, .int .u8 0, .int .u8 0, .int .u8 0, .int .u8 0, .int .u8 0, .int .u8 0, .int .u8 0, .int .u8 0, .int .u8 0, .int .u8 0, .int .u8 0, .int .u8 0, .int .u8 0, .int .u8 0, .int .u8 0, .int .u8 0, .int .u8 0, .int .u8 0, .int .u8 0]) := by kernel_rfl
theorem z_slice22 : sliceB Tryd.prog 22 = some (30, 36, 64) := by kernel_rfl
theorem z_notint22 : notIntB Tryd.prog 22 = true := by kernel_rfl
theorem q_len_c2 {a0 a1 : Value} : (a0 :: a1 :: []).length = 2 := (len_c (n := 1) (len_c (n := 0) len_n))
theorem z_field32_0 : fieldB Tryd.prog 32 0 = some 0 := by kernel_rfl
theorem z_field30_1 : fieldB Tryd.prog 30 1 = some 1 := by kernel_rfl
theorem q_ix_c4b32c1_1 {a0 a1 a2 a3 a5 : Value} {t4 : List UInt8} : (a0 :: a1 :: a2 :: a3 :: (t4.map u8 ++ (a5 :: [])))[1]? = some a1 := (ix_c (o := 0) ix_0)
theorem z_field32_1 : fieldB Tryd.prog 32 1 = some 36 := by kernel_rfl
theorem q_ix_c4b32c1_36 {a0 a1 a2 a3 a5 : Value} {t4 : List UInt8} (h4 : t4.length = 32) : (a0 :: a1 :: a2 :: a3 :: (t4.map u8 ++ (a5 :: [])))[36]? = some a5 := (ix_c (o := 35) (ix_c (o := 34) (ix_c (o := 33) (ix_c (o := 32) (ix_b (k := 32) (o := 0) h4 rfl ix_0)))))
theorem z_agg32 : aggB Tryd.prog 32 = some true := by kernel_rfl
theorem q_ld_c4b32c1_0_37 {a0 a1 a2 a3 a5 : Value} {t4 : List UInt8} (h4 : t4.length = 32) : ((a0 :: a1 :: a2 :: a3 :: (t4.map u8 ++ (a5 :: []))).drop 0).take 37 = a0 :: a1 :: a2 :: a3 :: (t4.map u8 ++ (a5 :: [])) := (ld_a (len_c (n := 36) (len_c (n := 35) (len_c (n := 34) (len_c (n := 33) (len_b (k := 32) (n := 1) h4 (len_c (n := 0) len_n)))))))

end Go.Proofs.YtaeahloenahelaaDoor.A_Xb2

set_option linter.unusedVariables false
set_option linter.unusedSimpArgs false
namespace Go.Proofs.YtaeahloenahelaaDoor.A_L8
open Go.Sx Go.RowKit Go.Proofs.YtaeahloenahelaaDoor.A_Block Go.Proofs.YtaeahloenahelaaDoor.A_Sum Go.Proofs.YtaeahloenahelaaDoor.A_Ref Go.Proofs.YtaeahloenahelaaDoor.A_RSum Go.Proofs.YtaeahloenahelaaDoor.A_Leaf Go.Proofs.YtaeahloenahelaaDoor.A_Num Go.Proofs.YtaeahloenahelaaDoor.A_Key Go.Proofs.YtaeahloenahelaaDoor.A_Ref Go.Proofs.YtaeahloenahelaaDoor.A_RSum Go.Proofs.YtaeahloenahelaaDoor.A_Tag Go.Proofs.YtaeahloenahelaaDoor.A_Lay Go.Proofs.YtaeahloenahelaaDoor.A_Eq Go.Proofs.YtaeahloenahelaaDoor.A_Ref0 Go.Proofs.YtaeahloenahelaaDoor.A_Sign Go.Proofs.YtaeahloenahelaaDoor.A_RefB Go.Proofs.YtaeahloenahelaaDoor.A_Win Go.Proofs.YtaeahloenahelaaDoor.A_RWin Go.Proofs.YtaeahloenahelaaDoor.A_Law Go.Proofs.YtaeahloenahelaaDoor.A_EqW Go.Proofs.YtaeahloenahelaaDoor.A_RCnt Go.Proofs.YtaeahloenahelaaDoor.A_Bk1 Go.Proofs.YtaeahloenahelaaDoor.A_Bk2 Go.Proofs.YtaeahloenahelaaDoor.A_Bo1 Go.Proofs.YtaeahloenahelaaDoor.A_Bo2 Go.Proofs.YtaeahloenahelaaDoor.A_Xb1 Go.Proofs.YtaeahloenahelaaDoor.A_Xb2

theorem z_field30_0 : fieldB Tryd.prog 30 0 = some 0 := by kernel_rfl
theorem z_agg3 : aggB Tryd.prog 3 = some false := by kernel_rfl
theorem q_ix_c4b32_0 {a0 a1 a2 a3 : Value} {t4 : List UInt8} : (a0 :: a1 :: a2 :: a3 :: t4.map u8)[0]? = some a0 := ix_0
theorem z_call32 : callB Tryd.prog 32 = true := by kernel_rfl
theorem z_call31 : callB Tryd.prog 31 = true := by kernel_rfl
theorem z_zeroN32 : zeroL Tryd.prog 32 = some ((.int .i64 0 :: (.int .i64 0 :: (.int .i64 0 :: (.int .i64 0 :: ((List.replicate 32 (0 : UInt8)).map u8 ++ (.int .i64 0 :: []))))))) := by kernel_rfl
theorem z_size32 : sizeB Tryd.prog 32 = some 37 := by kernel_rfl
theorem q_one_c4b32c1 {a0 a1 a2 a3 a5 : Value} {t4 : List UInt8} (o0 : a0.oneCell' = true) (o1 : a1.oneCell' = true) (o2 : a2.oneCell' = true) (o3 : a3.oneCell' = true) (o5 : a5.oneCell' = true) : (a0 :: a1 :: a2 :: a3 :: (t4.map u8 ++ (a5 :: []))).all (·.oneCell') = true := (one_c o0 (one_c o1 (one_c o2 (one_c o3 (one_b (one_c o5 one_n))))))
theorem q_len_c4b32c1 {a0 a1 a2 a3 a5 : Value} {t4 : List UInt8} (h4 : t4.length = 32) : (a0 :: a1 :: a2 :: a3 :: (t4.map u8 ++ (a5 :: []))).length = 37 := (len_c (n := 36) (len_c (n := 35) (len_c (n := 34) (len_c (n := 33) (len_b (k := 32) (n := 1) h4 (len_c (n := 0) len_n))))))
theorem q_spl_c4b32c1_0_c4b32c1 {a0 a1 a2 a3 a5 : Value} {t4 : List UInt8} {b0 b1 b2 b3 b5 : Value} {s4 : List UInt8} (h4 : t4.length = 32) (g4 : s4.length = 32) : spl (a0 :: a1 :: a2 :: a3 :: (t4.map u8 ++ (a5 :: []))) 0 (b0 :: b1 :: b2 :: b3 :: (s4.map u8 ++ (b5 :: []))) = b0 :: b1 :: b2 :: b3 :: (s4.map u8 ++ (b5 :: [])) := (spl_a (z := 37) (len_c (n := 36) (len_c (n := 35) (len_c (n := 34) (len_c (n := 33) (len_b (k := 32) (n := 1) h4 (len_c (n := 0) len_n)))))) (len_c (n := 36) (len_c (n := 35) (len_c (n := 34) (len_c (n := 33) (len_b (k := 32) (n := 1) g4 (len_c (n := 0) len_n)))))))
theorem z_call33 : callB Tryd.prog 33 = true := by kernel_rfl
theorem z_agg30 : aggB Tryd.prog 30 = some true := by kernel_rfl
theorem z_size30 : sizeB Tryd.prog 30 = some 36 := by kernel_rfl
theorem q_ld_c4b32_0_36 {a0 a1 a2 a3 : Value} {t4 : List UInt8} (h4 : t4.length = 32) : ((a0 :: a1 :: a2 :: a3 :: t4.map u8).drop 0).take 36 = a0 :: a1 :: a2 :: a3 :: t4.map u8 := (ld_a (len_c (n := 35) (len_c (n := 34) (len_c (n := 33) (len_c (n := 32) (len_e (k := 32) h4))))))
theorem q_len_c4b32 {a0 a1 a2 a3 : Value} {t4 : List UInt8} (h4 : t4.length = 32) : (a0 :: a1 :: a2 :: a3 :: t4.map u8).length = 36 := (len_c (n := 35) (len_c (n := 34) (len_c (n := 33) (len_c (n := 32) (len_e (k := 32) h4)))))
theorem z_call34 : callB Tryd.prog 34 = true := by kernel_rfl
theorem z_call35 : callB Tryd.prog 35 = true := by kernel_rfl
theorem z_call15 : callB Tryd.prog 15 = true := by kernel_rfl
theorem z_agg32 : aggB Tryd.prog 32 = some true := by kernel_rfl
theorem q_ld_c4b32c1_0_37 {a0 a1 a2 a3 a5 : Value} {t4 : List UInt8} (h4 : t4.length = 32) : ((a0 :: a1 :: a2 :: a3 :: (t4.map u8 ++ (a5 :: []))).drop 0).take 37 = a0 :: a1 :: a2 :: a3 :: (t4.map u8 ++ (a5 :: [])) := (ld_a (len_c (n := 36) (len_c (n := 35) (len_c (n := 34) (len_c (n := 33) (len_b (k := 32) (n := 1) h4 (len_c (n := 0) len_n)))))))
theorem z_places32 : placesB Tryd.prog 32 = some [(0, 36), (36, 1)] := by kernel_rfl
theorem z_call36 : callB Tryd.prog 36 = true := by kernel_rfl

set_option maxRecDepth 100000 in
set_option maxHeartbeats 8000000 in
theorem auctionNone (x : Note.Bid) (wx : Note.Bid.Wf x) {w : World} (hG : Glob 0 Sha.K w) : Calls Tryd.prog 10 #[.agg (Note.Bid.cells x).toArray] w (Gives (.bool true) [] w) := by
  have htx := wx.tag
  have hZl : Note.Z.length = 32 := Note.Z_len
  have hxs : Auction.Wfb (Auction.bidL 0 [] x (-1)) := Auction.bidL_wf (fun _ hq => absurd hq (by simp)) wx
  have hxl : (Auction.bidL 0 [] x (-1)).length ≤ 1000 := by have := Auction.bidL_len 0 [] x (-1); simp at this; omega
  have lz32 : (List.replicate 32 (0 : UInt8)).length = 32 := List.length_replicate
  have lz0 := wx.tag
  refine enterL (args := [.agg (Note.Bid.cells x).toArray]) Tryd.func10 rfl rfl (l := []) (Sep.refl _) ?_
  intro a0 H0
  refine wp_seq ?_
  refine reg ?_
  refine st_box rfl rfl (agg_cells _) rfl rfl rfl H0 ?_
  clear H0; intro b1 a1 wx1 H1
  refine plain (y_assign rfl rfl) rfl rfl rfl H1 ?_
  clear H1; intro a2 H2
  refine fin ?_
  refine then_n ?_
  refine wp_seq ?_
  refine reg ?_
  refine plain (y_assign rfl rfl) rfl rfl rfl H2 ?_
  clear H2; intro a3 H3
  refine fin ?_
  refine then_n ?_
  refine wp_seq ?_
  refine hreg _ (fun _ h => h) (by kernel_rfl) H3 ?_
  clear H3; intro wx4 H4
  refine htake 0 rfl (by kernel_rfl) (y_move rfl rfl) rfl rfl rfl (fun _ h => (h.sub (by first | exact S0 | exact S1 | repeat (first | exact S1 | exact S0 | apply S2 | apply S3)))) H4 ?_
  clear H4; intro a5 H5
  refine htake 1 rfl (by kernel_rfl) (y_fieldB rfl z_field30_0 rfl (by first | (simp only [Nat.zero_add, Nat.add_zero, Nat.reduceAdd]; rfl) | rfl)) rfl rfl rfl (fun _ h => (h.sub (by first | exact S0 | exact S1 | repeat (first | exact S1 | exact S0 | apply S2 | apply S3)))) H5 ?_
  clear H5; intro a6 H6
  refine htake 2 rfl (by kernel_rfl) (y_loadB rfl z_agg3 rfl (by repeat (first | exact Mh | apply Mt)) q_ix_c4b32_0) rfl rfl rfl (fun _ h => (h.sub (by first | exact S0 | exact S1 | repeat (first | exact S1 | exact S0 | apply S2 | apply S3)))) H6 ?_
  clear H6; intro a7 H7
  refine hgo2 3 8 rfl rfl (by kernel_rfl) ?_ ?_
  · skip
    refine st_call rfl z_call32 rfl rfl rfl rfl H7 (bnew _) ?_
    clear H7; intro v8 l8 a8 wx8 hf8 H8
    obtain ⟨bk, rfl, rfl⟩ := hf8
    simp only [List.cons_append, List.nil_append] at H8
    refine hfinA H8.sep ?_
    refine hgo2 4 8 rfl rfl (by kernel_rfl) ?_ ?_
    · skip
      refine st_callg rfl z_call31 rfl rfl rfl rfl H8 (acloseN x.round _ _) ?_
      clear H8; intro a9 wx9 H9
      refine hfinA H9.sep ?_
      refine htake 5 rfl (by kernel_rfl) (y_move rfl rfl) rfl rfl rfl (fun _ h => (h.sub (by first | exact S0 | exact S1 | repeat (first | exact S1 | exact S0 | apply S2 | apply S3)))) H9 ?_
      clear H9; intro a10 H10
      refine htake 6 rfl (by kernel_rfl) (y_extract rfl rfl rfl) rfl rfl rfl (fun _ h => (h.sub (by first | exact S0 | exact S1 | repeat (first | exact S1 | exact S0 | apply S2 | apply S3)))) H10 ?_
      clear H10; intro a11 H11
      refine htake 7 rfl (by kernel_rfl) (y_extract rfl rfl rfl) rfl rfl rfl (fun _ h => (h.sub (by first | exact S0 | exact S1 | repeat (first | exact S1 | exact S0 | apply S2 | apply S3)))) H11 ?_
      clear H11; intro a12 H12
      refine hgo 8 rfl (by kernel_rfl) ?_
      refine st_alloc rfl z_zeroN32 rfl rfl rfl H12 ?_
      clear H12; intro b13 a13 wx13 H13
      refine hfinA H13.sep ?_
      refine hgo 9 rfl (by kernel_rfl) ?_
      refine st_storeN rfl z_size32 rfl rfl (agg_cells _) (by repeat (first | exact Uh | apply Ut)) (q_one_c4b32c1 rfl rfl rfl rfl rfl) (q_len_c4b32c1 (by assumption)) (q_len_c4b32c1 (by assumption)) (q_spl_c4b32c1_0_c4b32c1 (by assumption) (by assumption)) (by decide) rfl rfl H13 ?_
      clear H13; intro wx14 H14
      refine hfinA H14.sep ?_
      refine htake 10 rfl (by kernel_rfl) (y_assign rfl rfl) rfl rfl rfl (fun _ h => (h.sub (by first | exact S0 | exact S1 | repeat (first | exact S1 | exact S0 | apply S2 | apply S3)))) H14 ?_
      clear H14; intro a15 H15
      refine hdone (by kernel_rfl) ?_
      refine then_n ?_
      refine wp_seq ?_
      refine reg ?_
      refine st_call rfl z_call33 rfl rfl rfl rfl H15 (anew 0 (by decide) _) ?_
      clear H15; intro v16 l16 a16 wx16 hf16 H16
      obtain ⟨b, h, rfl, rfl⟩ := hf16
      simp only [List.cons_append, List.nil_append] at H16
      refine plain (y_move rfl rfl) rfl rfl rfl H16 ?_
      clear H16; intro a17 H17
      refine plain (y_extract rfl rfl rfl) rfl rfl rfl H17 ?_
      clear H17; intro a18 H18
      refine plain (y_extract rfl rfl rfl) rfl rfl rfl H18 ?_
      clear H18; intro a19 H19
      refine plain (y_assign rfl rfl) rfl rfl rfl H19 ?_
      clear H19; intro a20 H20
      refine plain (y_assign rfl rfl) rfl rfl rfl H20 ?_
      clear H20; intro a21 H21
      refine fin ?_
      refine then_n ?_
      refine wp_seq ?_
      refine wp_seq ?_
      refine reg ?_
      refine plain (y_move rfl rfl) rfl rfl rfl H21 ?_
      clear H21; intro a22 H22
      refine plain (y_peql rfl Tryd.underlying68 rfl rfl) rfl rfl rfl H22 ?_
      clear H22; intro a23 H23
      refine fin ?_
      refine then_n ?_
      refine cnd_f H23 rfl ?_
      refine wp_skip ?_
      refine then_n ?_
      refine wp_seq ?_
      replace H23 := H23.nilRow 30 36
      refine reg ?_
      refine plain (y_move rfl rfl) rfl rfl rfl H23 ?_
      clear H23; intro a25 H25
      refine plain (y_loadAB rfl z_agg30 z_size30 rfl (by repeat (first | exact Mh | apply Mt)) (q_ld_c4b32_0_36 (by assumption)) (q_len_c4b32 (by assumption))) rfl rfl rfl H25 ?_
      clear H25; intro a26 H26
      refine st_callk2 (is := [It.blk b 111 [i64 0, .map (some h)], It.mp h (fun _ => none), It.row 30 36 (.slice none 0 0 : Value) ([] : List Note.Bid).length (Auction.bdc ([] : List Note.Bid))]) (enters_call rfl z_call34 rfl) rfl rfl rfl H26 (.cons (by repeat (first | exact Ph | apply Pt)) (.cons (by repeat (first | exact Ph | apply Pt)) (.cons (by repeat (first | exact Ph | apply Pt)) (.nil _)))) (fun hs => abid 0 [] (fun _ hq => absurd hq (by simp)) (by simp) (fun _ => none) (.slice none 0 0 : Value) b h x wx (-1) rfl hs (hG.frm H26.sep.frm (by simp)) (fps_new H26.sep (.cons (by repeat (first | exact Ph | apply Pt)) (.cons (by repeat (first | exact Ph | apply Pt)) (.cons (by repeat (first | exact Ph | apply Pt)) (.nil _)))) hG (by decide))) ?_
      clear H26; intro v27 l27 a27 wx27 hf27 H27
      obtain ⟨rfl, f1, v1, hv1, hf1, rfl⟩ := hf27
      simp only [List.cons_append, List.nil_append] at H27
      refine fin ?_
      refine then_n ?_
      refine wp_seq ?_
      refine reg ?_
      refine plain (y_move rfl rfl) rfl rfl rfl H27 ?_
      clear H27; intro a28 H28
      refine plain (y_fieldB rfl z_field30_0 rfl (by first | (simp only [Nat.zero_add, Nat.add_zero, Nat.reduceAdd]; rfl) | rfl)) rfl rfl rfl H28 ?_
      clear H28; intro a29 H29
      refine plain (y_loadB rfl z_agg3 rfl (by repeat (first | exact Mh | apply Mt)) q_ix_c4b32_0) rfl rfl rfl H29 ?_
      clear H29; intro a30 H30
      refine st_call rfl z_call35 rfl rfl rfl rfl H30 (abids 0 (Auction.bidL 0 [] x (-1)) hxs hxl f1 v1 b h x.round hv1 (H30.sep.all _ (by repeat (first | exact Mh | apply Mt))) (H30.sep.all _ (by repeat (first | exact Mh | apply Mt))) (H30.sep.all _ (by repeat (first | exact Mh | apply Mt)))) ?_
      clear H30; intro v31 l31 a31 wx31 hf31 H31
      obtain rfl := hf31
      simp only [List.cons_append, List.nil_append] at H31
      obtain ⟨ArS, crS, hvrS, hRrS, hmrS⟩ := row_shape (v := v31) H31.sep (by repeat (first | exact Mh | apply Mt))
      subst hvrS
      refine plain (y_assign rfl rfl) rfl rfl rfl H31 ?_
      clear H31; intro a32 H32
      refine fin ?_
      refine then_n ?_
      refine wp_seq ?_
      refine reg ?_
      refine plain (y_move rfl rfl) rfl rfl rfl H32 ?_
      clear H32; intro a33 H33
      refine plain (y_fieldB rfl z_field30_0 rfl (by first | (simp only [Nat.zero_add, Nat.add_zero, Nat.reduceAdd]; rfl) | rfl)) rfl rfl rfl H33 ?_
      clear H33; intro a34 H34
      refine plain (y_loadB rfl z_agg3 rfl (by repeat (first | exact Mh | apply Mt)) q_ix_c4b32_0) rfl rfl rfl H34 ?_
      clear H34; intro a35 H35
      refine st_callg rfl z_call31 rfl rfl rfl rfl H35 (acloseK b x.round _) ?_
      clear H35; intro a36 wx36 H36
      refine plain (y_move rfl rfl) rfl rfl rfl H36 ?_
      clear H36; intro a37 H37
      refine plain (y_extract rfl rfl rfl) rfl rfl rfl H37 ?_
      clear H37; intro a38 H38
      refine plain (y_extract rfl rfl rfl) rfl rfl rfl H38 ?_
      clear H38; intro a39 H39
      refine st_alloc rfl z_zeroN32 rfl rfl rfl H39 ?_
      clear H39; intro b40 a40 wx40 H40
      refine st_storeN rfl z_size32 rfl rfl (agg_cells _) (by repeat (first | exact Uh | apply Ut)) (q_one_c4b32c1 rfl rfl rfl rfl rfl) (q_len_c4b32c1 (by assumption)) (q_len_c4b32c1 (by assumption)) (q_spl_c4b32c1_0_c4b32c1 (by assumption) (by assumption)) (by decide) rfl rfl H40 ?_
      clear H40; intro wx41 H41
      refine plain (y_assign rfl rfl) rfl rfl rfl H41 ?_
      clear H41; intro a42 H42
      refine fin ?_
      refine then_n ?_
      refine wp_seq ?_
      refine reg ?_
      refine st_callg rfl z_call15 rfl rfl rfl rfl H42 (aawake (hG.frm H42.sep.frm (by simp))) ?_
      clear H42; intro a43 wx43 H43
      refine plain (y_move rfl rfl) rfl rfl rfl H43 ?_
      clear H43; intro a44 H44
      refine plain (y_move rfl rfl) rfl rfl rfl H44 ?_
      clear H44; intro a45 H45
      refine plain (y_loadAB rfl z_agg30 z_size30 rfl (by repeat (first | exact Mh | apply Mt)) (q_ld_c4b32_0_36 (by assumption)) (q_len_c4b32 (by assumption))) rfl rfl rfl H45 ?_
      clear H45; intro a46 H46
      refine st_callg rfl z_call34 rfl rfl rfl rfl H46 (abidN x wx 0 _) ?_
      clear H46; intro a47 wx47 H47
      refine plain (y_eql rfl rfl rfl) rfl rfl rfl H47 ?_
      clear H47; intro a48 H48
      refine plain (y_pick_t rfl rfl rfl) rfl rfl rfl H48 ?_
      clear H48; intro a49 H49
      refine plain (y_move rfl rfl) rfl rfl rfl H49 ?_
      clear H49; intro a50 H50
      have H52 := H50.know (d := 46) (v := .bool true) rfl ((by first | rfl | exact congrArg Value.bool (decide_eq_true (by first | rfl | decide))))
      clear H50
      refine plain (y_move rfl rfl) rfl rfl rfl H52 ?_
      clear H52; intro a53 H53
      refine plain (y_fieldB rfl z_field30_0 rfl (by first | (simp only [Nat.zero_add, Nat.add_zero, Nat.reduceAdd]; rfl) | rfl)) rfl rfl rfl H53 ?_
      clear H53; intro a54 H54
      refine plain (y_loadB rfl z_agg3 rfl (by repeat (first | exact Mh | apply Mt)) q_ix_c4b32_0) rfl rfl rfl H54 ?_
      clear H54; intro a55 H55
      refine st_callg rfl z_call35 rfl rfl rfl rfl H55 (abidsN x.round _) ?_
      clear H55; intro a56 wx56 H56
      refine plain (y_len rfl Tryd.underlying22 rfl) rfl rfl rfl H56 ?_
      clear H56; intro a57 H57
      refine plain (y_eql rfl rfl rfl) rfl rfl rfl H57 ?_
      clear H57; intro a58 H58
      refine plain (y_pick_t rfl rfl rfl) rfl rfl rfl H58 ?_
      clear H58; intro a59 H59
      refine plain (y_move rfl rfl) rfl rfl rfl H59 ?_
      clear H59; intro a60 H60
      have H62 := H60.know (d := 54) (v := .bool true) rfl ((by first | rfl | exact congrArg Value.bool (decide_eq_true (by first | rfl | decide))))
      clear H60
      refine plain (y_loadAB rfl z_agg32 z_size32 rfl (by repeat (first | exact Mh | apply Mt)) (q_ld_c4b32c1_0_37 (by assumption)) (q_len_c4b32c1 (by assumption))) rfl rfl rfl H62 ?_
      clear H62; intro a63 H63
      refine plain (y_build rfl z_zeroN32 z_places32 rfl lay_n) rfl rfl rfl H63 ?_
      clear H63; intro a64 H64
      refine plain (y_teql rfl (by kernel_rfl) rfl rfl (eqr_Win Auction.Win.zero Auction.Win.zero rfl rfl)) rfl rfl rfl H64 ?_
      clear H64; intro a65 H65
      refine plain (y_pick_t rfl rfl rfl) rfl rfl rfl H65 ?_
      clear H65; intro a66 H66
      refine plain (y_move rfl rfl) rfl rfl rfl H66 ?_
      clear H66; intro a67 H67
      have H69 := H67.know (d := 59) (v := .bool true) rfl ((by first | rfl | exact congrArg Value.bool (decide_eq_true (by first | rfl | decide))))
      clear H67
      refine plain (y_move rfl rfl) rfl rfl rfl H69 ?_
      clear H69; intro a70 H70
      refine plain ((by first | exact y_not_d rfl rfl | exact y_not rfl rfl)) rfl rfl rfl H70 ?_
      clear H70; intro a71 H71
      refine plain (y_pick_t rfl rfl rfl) rfl rfl rfl H71 ?_
      clear H71; intro a72 H72
      refine plain (y_move rfl rfl) rfl rfl rfl H72 ?_
      clear H72; intro a73 H73
      have H75 := H73.know (d := 63) (v := .bool true) rfl ((by first | rfl | exact congrArg Value.bool (decide_eq_true (by first | rfl | decide))))
      clear H73
      refine plain (y_loadAB rfl z_agg32 z_size32 rfl (by repeat (first | exact Mh | apply Mt)) (q_ld_c4b32c1_0_37 (by assumption)) (q_len_c4b32c1 (by assumption))) rfl rfl rfl H75 ?_
      clear H75; intro a76 H76
      refine plain (y_build rfl z_zeroN32 z_places32 rfl lay_n) rfl rfl rfl H76 ?_
      clear H76; intro a77 H77
      refine plain (y_teql rfl (by kernel_rfl) rfl rfl (eqr_Win Auction.Win.zero Auction.Win.zero rfl rfl)) rfl rfl rfl H77 ?_
      clear H77; intro a78 H78
      refine plain (y_pick_t rfl rfl rfl) rfl rfl rfl H78 ?_
      clear H78; intro a79 H79
      refine plain (y_move rfl rfl) rfl rfl rfl H79 ?_
      clear H79; intro a80 H80
      have H82 := H80.know (d := 68) (v := .bool true) rfl ((by first | rfl | exact congrArg Value.bool (decide_eq_true (by first | rfl | decide))))
      clear H80
      refine plain (y_move rfl rfl) rfl rfl rfl H82 ?_
      clear H82; intro a83 H83
      refine plain ((by first | exact y_not_d rfl rfl | exact y_not rfl rfl)) rfl rfl rfl H83 ?_
      clear H83; intro a84 H84
      refine plain (y_pick_t rfl rfl rfl) rfl rfl rfl H84 ?_
      clear H84; intro a85 H85
      refine plain (y_move rfl rfl) rfl rfl rfl H85 ?_
      clear H85; intro a86 H86
      have H88 := H86.know (d := 72) (v := .bool true) rfl ((by first | rfl | exact congrArg Value.bool (decide_eq_true (by first | rfl | decide))))
      clear H86
      refine plain (y_move rfl rfl) rfl rfl rfl H88 ?_
      clear H88; intro a89 H89
      refine plain (y_move rfl rfl) rfl rfl rfl H89 ?_
      clear H89; intro a90 H90
      refine plain (y_fieldB rfl z_field30_0 rfl (by first | (simp only [Nat.zero_add, Nat.add_zero, Nat.reduceAdd]; rfl) | rfl)) rfl rfl rfl H90 ?_
      clear H90; intro a91 H91
      refine plain (y_loadB rfl z_agg3 rfl (by repeat (first | exact Mh | apply Mt)) q_ix_c4b32_0) rfl rfl rfl H91 ?_
      clear H91; intro a92 H92
      refine st_call rfl z_call35 rfl rfl rfl rfl H92 (abids 0 (Auction.bidL 0 [] x (-1)) hxs hxl f1 v1 b h x.round hv1 (H92.sep.all _ (by repeat (first | exact Mh | apply Mt))) (H92.sep.all _ (by repeat (first | exact Mh | apply Mt))) (H92.sep.all _ (by repeat (first | exact Mh | apply Mt)))) ?_
      clear H92; intro v93 l93 a93 wx93 hf93 H93
      obtain rfl := hf93
      simp only [List.cons_append, List.nil_append] at H93
      obtain ⟨ArT, crT, hvrT, hRrT, hmrT⟩ := row_shape (v := v93) H93.sep (by repeat (first | exact Mh | apply Mt))
      subst hvrT
      refine st_callg rfl z_call36 rfl rfl rfl rfl H93 (xsame (Auction.bidL 0 [] x (-1)) hxs ArS ArT crS crT hxl (Rd.ofSep (rd_row (by repeat (first | exact Mh | apply Mt))) H93.sep) (Rd.ofSep (rd_row (by repeat (first | exact Mh | apply Mt))) H93.sep)) ?_
      clear H93; intro a94 wx94 H94
      refine plain (y_pick_t rfl rfl rfl) rfl rfl rfl H94 ?_
      clear H94; intro a95 H95
      refine plain (y_assign rfl rfl) rfl rfl rfl H95 ?_
      clear H95; intro a96 H96
      refine fin ?_
      refine then_n ?_
      refine wp_ret ?_
      -- return 1
      refine ret1 rfl H96 rfl ?_
      exact ⟨_, [], rfl, ⟨rfl, rfl⟩, H96.sep.sub (List.nil_sublist _)⟩
    · skip
      refine st_alloc rfl z_zeroN32 rfl rfl rfl H8 ?_
      clear H8; intro b97 a97 wx97 H97
      refine hfinA H97.sep ?_
      refine hgo 4 rfl (by kernel_rfl) ?_
      refine st_callg rfl z_call31 rfl rfl rfl rfl H97 (acloseN x.round _ _) ?_
      clear H97; intro a98 wx98 H98
      refine hfinA H98.sep ?_
      refine htake 5 rfl (by kernel_rfl) (y_move rfl rfl) rfl rfl rfl (fun _ h => (h.sub (by first | exact S0 | exact S1 | repeat (first | exact S1 | exact S0 | apply S2 | apply S3)))) H98 ?_
      clear H98; intro a99 H99
      refine htake 6 rfl (by kernel_rfl) (y_extract rfl rfl rfl) rfl rfl rfl (fun _ h => (h.sub (by first | exact S0 | exact S1 | repeat (first | exact S1 | exact S0 | apply S2 | apply S3)))) H99 ?_
      clear H99; intro a100 H100
      refine htake 7 rfl (by kernel_rfl) (y_extract rfl rfl rfl) rfl rfl rfl (fun _ h => (h.sub (by first | exact S0 | exact S1 | repeat (first | exact S1 | exact S0 | apply S2 | apply S3)))) H100 ?_
      clear H100; intro a101 H101
      refine hgo 9 rfl (by kernel_rfl) ?_
      refine st_storeN rfl z_size32 rfl rfl (agg_cells _) (by repeat (first | exact Uh | apply Ut)) (q_one_c4b32c1 rfl rfl rfl rfl rfl) (q_len_c4b32c1 (by assumption)) (q_len_c4b32c1 (by assumption)) (q_spl_c4b32c1_0_c4b32c1 (by assumption) (by assumption)) (by decide) rfl rfl H101 ?_
      clear H101; intro wx102 H102
      refine hfinA H102.sep ?_
      refine htake 10 rfl (by kernel_rfl) (y_assign rfl rfl) rfl rfl rfl (fun _ h => (h.sub (by first | exact S0 | exact S1 | repeat (first | exact S1 | exact S0 | apply S2 | apply S3)))) H102 ?_
      clear H102; intro a103 H103
      refine hdone (by kernel_rfl) ?_
      refine then_n ?_
      refine wp_seq ?_
      refine reg ?_
      refine st_call rfl z_call33 rfl rfl rfl rfl H103 (anew 0 (by decide) _) ?_
      clear H103; intro v104 l104 a104 wx104 hf104 H104
      obtain ⟨b, h, rfl, rfl⟩ := hf104
      simp only [List.cons_append, List.nil_append] at H104
      refine plain (y_move rfl rfl) rfl rfl rfl H104 ?_
      clear H104; intro a105 H105
      refine plain (y_extract rfl rfl rfl) rfl rfl rfl H105 ?_
      clear H105; intro a106 H106
      refine plain (y_extract rfl rfl rfl) rfl rfl rfl H106 ?_
      clear H106; intro a107 H107
      refine plain (y_assign rfl rfl) rfl rfl rfl H107 ?_
      clear H107; intro a108 H108
      refine plain (y_assign rfl rfl) rfl rfl rfl H108 ?_
      clear H108; intro a109 H109
      refine fin ?_
      refine then_n ?_
      refine wp_seq ?_
      refine wp_seq ?_
      refine reg ?_
      refine plain (y_move rfl rfl) rfl rfl rfl H109 ?_
      clear H109; intro a110 H110
      refine plain (y_peql rfl Tryd.underlying68 rfl rfl) rfl rfl rfl H110 ?_
      clear H110; intro a111 H111
      refine fin ?_
      refine then_n ?_
      refine cnd_f H111 rfl ?_
      refine wp_skip ?_
      refine then_n ?_
      refine wp_seq ?_
      replace H111 := H111.nilRow 30 36
      refine reg ?_
      refine plain (y_move rfl rfl) rfl rfl rfl H111 ?_
      clear H111; intro a113 H113
      refine plain (y_loadAB rfl z_agg30 z_size30 rfl (by repeat (first | exact Mh | apply Mt)) (q_ld_c4b32_0_36 (by assumption)) (q_len_c4b32 (by assumption))) rfl rfl rfl H113 ?_
      clear H113; intro a114 H114
      refine st_callk2 (is := [It.blk b 111 [i64 0, .map (some h)], It.mp h (fun _ => none), It.row 30 36 (.slice none 0 0 : Value) ([] : List Note.Bid).length (Auction.bdc ([] : List Note.Bid))]) (enters_call rfl z_call34 rfl) rfl rfl rfl H114 (.cons (by repeat (first | exact Ph | apply Pt)) (.cons (by repeat (first | exact Ph | apply Pt)) (.cons (by repeat (first | exact Ph | apply Pt)) (.nil _)))) (fun hs => abid 0 [] (fun _ hq => absurd hq (by simp)) (by simp) (fun _ => none) (.slice none 0 0 : Value) b h x wx (-1) rfl hs (hG.frm H114.sep.frm (by simp)) (fps_new H114.sep (.cons (by repeat (first | exact Ph | apply Pt)) (.cons (by repeat (first | exact Ph | apply Pt)) (.cons (by repeat (first | exact Ph | apply Pt)) (.nil _)))) hG (by decide))) ?_
      clear H114; intro v115 l115 a115 wx115 hf115 H115
      obtain ⟨rfl, f1, v1, hv1, hf1, rfl⟩ := hf115
      simp only [List.cons_append, List.nil_append] at H115
      refine fin ?_
      refine then_n ?_
      refine wp_seq ?_
      refine reg ?_
      refine plain (y_move rfl rfl) rfl rfl rfl H115 ?_
      clear H115; intro a116 H116
      refine plain (y_fieldB rfl z_field30_0 rfl (by first | (simp only [Nat.zero_add, Nat.add_zero, Nat.reduceAdd]; rfl) | rfl)) rfl rfl rfl H116 ?_
      clear H116; intro a117 H117
      refine plain (y_loadB rfl z_agg3 rfl (by repeat (first | exact Mh | apply Mt)) q_ix_c4b32_0) rfl rfl rfl H117 ?_
      clear H117; intro a118 H118
      refine st_call rfl z_call35 rfl rfl rfl rfl H118 (abids 0 (Auction.bidL 0 [] x (-1)) hxs hxl f1 v1 b h x.round hv1 (H118.sep.all _ (by repeat (first | exact Mh | apply Mt))) (H118.sep.all _ (by repeat (first | exact Mh | apply Mt))) (H118.sep.all _ (by repeat (first | exact Mh | apply Mt)))) ?_
      clear H118; intro v119 l119 a119 wx119 hf119 H119
      obtain rfl := hf119
      simp only [List.cons_append, List.nil_append] at H119
      obtain ⟨ArS, crS, hvrS, hRrS, hmrS⟩ := row_shape (v := v119) H119.sep (by repeat (first | exact Mh | apply Mt))
      subst hvrS
      refine plain (y_assign rfl rfl) rfl rfl rfl H119 ?_
      clear H119; intro a120 H120
      refine fin ?_
      refine then_n ?_
      refine wp_seq ?_
      refine reg ?_
      refine plain (y_move rfl rfl) rfl rfl rfl H120 ?_
      clear H120; intro a121 H121
      refine plain (y_fieldB rfl z_field30_0 rfl (by first | (simp only [Nat.zero_add, Nat.add_zero, Nat.reduceAdd]; rfl) | rfl)) rfl rfl rfl H121 ?_
      clear H121; intro a122 H122
      refine plain (y_loadB rfl z_agg3 rfl (by repeat (first | exact Mh | apply Mt)) q_ix_c4b32_0) rfl rfl rfl H122 ?_
      clear H122; intro a123 H123
      refine st_callg rfl z_call31 rfl rfl rfl rfl H123 (acloseK b x.round _) ?_
      clear H123; intro a124 wx124 H124
      refine plain (y_move rfl rfl) rfl rfl rfl H124 ?_
      clear H124; intro a125 H125
      refine plain (y_extract rfl rfl rfl) rfl rfl rfl H125 ?_
      clear H125; intro a126 H126
      refine plain (y_extract rfl rfl rfl) rfl rfl rfl H126 ?_
      clear H126; intro a127 H127
      refine st_alloc rfl z_zeroN32 rfl rfl rfl H127 ?_
      clear H127; intro b128 a128 wx128 H128
      refine st_storeN rfl z_size32 rfl rfl (agg_cells _) (by repeat (first | exact Uh | apply Ut)) (q_one_c4b32c1 rfl rfl rfl rfl rfl) (q_len_c4b32c1 (by assumption)) (q_len_c4b32c1 (by assumption)) (q_spl_c4b32c1_0_c4b32c1 (by assumption) (by assumption)) (by decide) rfl rfl H128 ?_
      clear H128; intro wx129 H129
      refine plain (y_assign rfl rfl) rfl rfl rfl H129 ?_
      clear H129; intro a130 H130
      refine fin ?_
      refine then_n ?_
      refine wp_seq ?_
      refine reg ?_
      refine st_callg rfl z_call15 rfl rfl rfl rfl H130 (aawake (hG.frm H130.sep.frm (by simp))) ?_
      clear H130; intro a131 wx131 H131
      refine plain (y_move rfl rfl) rfl rfl rfl H131 ?_
      clear H131; intro a132 H132
      refine plain (y_move rfl rfl) rfl rfl rfl H132 ?_
      clear H132; intro a133 H133
      refine plain (y_loadAB rfl z_agg30 z_size30 rfl (by repeat (first | exact Mh | apply Mt)) (q_ld_c4b32_0_36 (by assumption)) (q_len_c4b32 (by assumption))) rfl rfl rfl H133 ?_
      clear H133; intro a134 H134
      refine st_callg rfl z_call34 rfl rfl rfl rfl H134 (abidN x wx 0 _) ?_
      clear H134; intro a135 wx135 H135
      refine plain (y_eql rfl rfl rfl) rfl rfl rfl H135 ?_
      clear H135; intro a136 H136
      refine plain (y_pick_t rfl rfl rfl) rfl rfl rfl H136 ?_
      clear H136; intro a137 H137
      refine plain (y_move rfl rfl) rfl rfl rfl H137 ?_
      clear H137; intro a138 H138
      have H140 := H138.know (d := 46) (v := .bool true) rfl ((by first | rfl | exact congrArg Value.bool (decide_eq_true (by first | rfl | decide))))
      clear H138
      refine plain (y_move rfl rfl) rfl rfl rfl H140 ?_
      clear H140; intro a141 H141
      refine plain (y_fieldB rfl z_field30_0 rfl (by first | (simp only [Nat.zero_add, Nat.add_zero, Nat.reduceAdd]; rfl) | rfl)) rfl rfl rfl H141 ?_
      clear H141; intro a142 H142
      refine plain (y_loadB rfl z_agg3 rfl (by repeat (first | exact Mh | apply Mt)) q_ix_c4b32_0) rfl rfl rfl H142 ?_
      clear H142; intro a143 H143
      refine st_callg rfl z_call35 rfl rfl rfl rfl H143 (abidsN x.round _) ?_
      clear H143; intro a144 wx144 H144
      refine plain (y_len rfl Tryd.underlying22 rfl) rfl rfl rfl H144 ?_
      clear H144; intro a145 H145
      refine plain (y_eql rfl rfl rfl) rfl rfl rfl H145 ?_
      clear H145; intro a146 H146
      refine plain (y_pick_t rfl rfl rfl) rfl rfl rfl H146 ?_
      clear H146; intro a147 H147
      refine plain (y_move rfl rfl) rfl rfl rfl H147 ?_
      clear H147; intro a148 H148
      have H150 := H148.know (d := 54) (v := .bool true) rfl ((by first | rfl | exact congrArg Value.bool (decide_eq_true (by first | rfl | decide))))
      clear H148
      refine plain (y_loadAB rfl z_agg32 z_size32 rfl (by repeat (first | exact Mh | apply Mt)) (q_ld_c4b32c1_0_37 (by assumption)) (q_len_c4b32c1 (by assumption))) rfl rfl rfl H150 ?_
      clear H150; intro a151 H151
      refine plain (y_build rfl z_zeroN32 z_places32 rfl lay_n) rfl rfl rfl H151 ?_
      clear H151; intro a152 H152
      refine plain (y_teql rfl (by kernel_rfl) rfl rfl (eqr_Win Auction.Win.zero Auction.Win.zero rfl rfl)) rfl rfl rfl H152 ?_
      clear H152; intro a153 H153
      refine plain (y_pick_t rfl rfl rfl) rfl rfl rfl H153 ?_
      clear H153; intro a154 H154
      refine plain (y_move rfl rfl) rfl rfl rfl H154 ?_
      clear H154; intro a155 H155
      have H157 := H155.know (d := 59) (v := .bool true) rfl ((by first | rfl | exact congrArg Value.bool (decide_eq_true (by first | rfl | decide))))
      clear H155
      refine plain (y_move rfl rfl) rfl rfl rfl H157 ?_
      clear H157; intro a158 H158
      refine plain ((by first | exact y_not_d rfl rfl | exact y_not rfl rfl)) rfl rfl rfl H158 ?_
      clear H158; intro a159 H159
      refine plain (y_pick_t rfl rfl rfl) rfl rfl rfl H159 ?_
      clear H159; intro a160 H160
      refine plain (y_move rfl rfl) rfl rfl rfl H160 ?_
      clear H160; intro a161 H161
      have H163 := H161.know (d := 63) (v := .bool true) rfl ((by first | rfl | exact congrArg Value.bool (decide_eq_true (by first | rfl | decide))))
      clear H161
      refine plain (y_loadAB rfl z_agg32 z_size32 rfl (by repeat (first | exact Mh | apply Mt)) (q_ld_c4b32c1_0_37 (by assumption)) (q_len_c4b32c1 (by assumption))) rfl rfl rfl H163 ?_
      clear H163; intro a164 H164
      refine plain (y_build rfl z_zeroN32 z_places32 rfl lay_n) rfl rfl rfl H164 ?_
      clear H164; intro a165 H165
      refine plain (y_teql rfl (by kernel_rfl) rfl rfl (eqr_Win Auction.Win.zero Auction.Win.zero rfl rfl)) rfl rfl rfl H165 ?_
      clear H165; intro a166 H166
      refine plain (y_pick_t rfl rfl rfl) rfl rfl rfl H166 ?_
      clear H166; intro a167 H167
      refine plain (y_move rfl rfl) rfl rfl rfl H167 ?_
      clear H167; intro a168 H168
      have H170 := H168.know (d := 68) (v := .bool true) rfl ((by first | rfl | exact congrArg Value.bool (decide_eq_true (by first | rfl | decide))))
      clear H168
      refine plain (y_move rfl rfl) rfl rfl rfl H170 ?_
      clear H170; intro a171 H171
      refine plain ((by first | exact y_not_d rfl rfl | exact y_not rfl rfl)) rfl rfl rfl H171 ?_
      clear H171; intro a172 H172
      refine plain (y_pick_t rfl rfl rfl) rfl rfl rfl H172 ?_
      clear H172; intro a173 H173
      refine plain (y_move rfl rfl) rfl rfl rfl H173 ?_
      clear H173; intro a174 H174
      have H176 := H174.know (d := 72) (v := .bool true) rfl ((by first | rfl | exact congrArg Value.bool (decide_eq_true (by first | rfl | decide))))
      clear H174
      refine plain (y_move rfl rfl) rfl rfl rfl H176 ?_
      clear H176; intro a177 H177
      refine plain (y_move rfl rfl) rfl rfl rfl H177 ?_
      clear H177; intro a178 H178
      refine plain (y_fieldB rfl z_field30_0 rfl (by first | (simp only [Nat.zero_add, Nat.add_zero, Nat.reduceAdd]; rfl) | rfl)) rfl rfl rfl H178 ?_
      clear H178; intro a179 H179
      refine plain (y_loadB rfl z_agg3 rfl (by repeat (first | exact Mh | apply Mt)) q_ix_c4b32_0) rfl rfl rfl H179 ?_
      clear H179; intro a180 H180
      refine st_call rfl z_call35 rfl rfl rfl rfl H180 (abids 0 (Auction.bidL 0 [] x (-1)) hxs hxl f1 v1 b h x.round hv1 (H180.sep.all _ (by repeat (first | exact Mh | apply Mt))) (H180.sep.all _ (by repeat (first | exact Mh | apply Mt))) (H180.sep.all _ (by repeat (first | exact Mh | apply Mt)))) ?_
      clear H180; intro v181 l181 a181 wx181 hf181 H181
      obtain rfl := hf181
      simp only [List.cons_append, List.nil_append] at H181
      obtain ⟨ArT, crT, hvrT, hRrT, hmrT⟩ := row_shape (v := v181) H181.sep (by repeat (first | exact Mh | apply Mt))
      subst hvrT
      refine st_callg rfl z_call36 rfl rfl rfl rfl H181 (xsame (Auction.bidL 0 [] x (-1)) hxs ArS ArT crS crT hxl (Rd.ofSep (rd_row (by repeat (first | exact Mh | apply Mt))) H181.sep) (Rd.ofSep (rd_row (by repeat (first | exact Mh | apply Mt))) H181.sep)) ?_
      clear H181; intro a182 wx182 H182
      refine plain (y_pick_t rfl rfl rfl) rfl rfl rfl H182 ?_
      clear H182; intro a183 H183
      refine plain (y_assign rfl rfl) rfl rfl rfl H183 ?_
      clear H183; intro a184 H184
      refine fin ?_
      refine then_n ?_
      refine wp_ret ?_
      -- return 2
      refine ret1 rfl H184 rfl ?_
      exact ⟨_, [], rfl, ⟨rfl, rfl⟩, H184.sep.sub (List.nil_sublist _)⟩
  · skip
    refine st_alloc rfl z_zeroN32 rfl rfl rfl H7 ?_
    clear H7; intro b185 a185 wx185 H185
    refine hfinA H185.sep ?_
    refine hgo 3 rfl (by kernel_rfl) ?_
    refine st_call rfl z_call32 rfl rfl rfl rfl H185 (bnew _) ?_
    clear H185; intro v186 l186 a186 wx186 hf186 H186
    obtain ⟨bk, rfl, rfl⟩ := hf186
    simp only [List.cons_append, List.nil_append] at H186
    refine hfinA H186.sep ?_
    refine hgo 4 rfl (by kernel_rfl) ?_
    refine st_callg rfl z_call31 rfl rfl rfl rfl H186 (acloseN x.round _ _) ?_
    clear H186; intro a187 wx187 H187
    refine hfinA H187.sep ?_
    refine htake 5 rfl (by kernel_rfl) (y_move rfl rfl) rfl rfl rfl (fun _ h => (h.sub (by first | exact S0 | exact S1 | repeat (first | exact S1 | exact S0 | apply S2 | apply S3)))) H187 ?_
    clear H187; intro a188 H188
    refine htake 6 rfl (by kernel_rfl) (y_extract rfl rfl rfl) rfl rfl rfl (fun _ h => (h.sub (by first | exact S0 | exact S1 | repeat (first | exact S1 | exact S0 | apply S2 | apply S3)))) H188 ?_
    clear H188; intro a189 H189
    refine htake 7 rfl (by kernel_rfl) (y_extract rfl rfl rfl) rfl rfl rfl (fun _ h => (h.sub (by first | exact S0 | exact S1 | repeat (first | exact S1 | exact S0 | apply S2 | apply S3)))) H189 ?_
    clear H189; intro a190 H190
    refine hgo 9 rfl (by kernel_rfl) ?_
    refine st_storeN rfl z_size32 rfl rfl (agg_cells _) (by repeat (first | exact Uh | apply Ut)) (q_one_c4b32c1 rfl rfl rfl rfl rfl) (q_len_c4b32c1 (by assumption)) (q_len_c4b32c1 (by assumption)) (q_spl_c4b32c1_0_c4b32c1 (by assumption) (by assumption)) (by decide) rfl rfl H190 ?_
    clear H190; intro wx191 H191
    refine hfinA H191.sep ?_
    refine htake 10 rfl (by kernel_rfl) (y_assign rfl rfl) rfl rfl rfl (fun _ h => (h.sub (by first | exact S0 | exact S1 | repeat (first | exact S1 | exact S0 | apply S2 | apply S3)))) H191 ?_
    clear H191; intro a192 H192
    refine hdone (by kernel_rfl) ?_
    refine then_n ?_
    refine wp_seq ?_
    refine reg ?_
    refine st_call rfl z_call33 rfl rfl rfl rfl H192 (anew 0 (by decide) _) ?_
    clear H192; intro v193 l193 a193 wx193 hf193 H193
    obtain ⟨b, h, rfl, rfl⟩ := hf193
    simp only [List.cons_append, List.nil_append] at H193
    refine plain (y_move rfl rfl) rfl rfl rfl H193 ?_
    clear H193; intro a194 H194
    refine plain (y_extract rfl rfl rfl) rfl rfl rfl H194 ?_
    clear H194; intro a195 H195
    refine plain (y_extract rfl rfl rfl) rfl rfl rfl H195 ?_
    clear H195; intro a196 H196
    refine plain (y_assign rfl rfl) rfl rfl rfl H196 ?_
    clear H196; intro a197 H197
    refine plain (y_assign rfl rfl) rfl rfl rfl H197 ?_
    clear H197; intro a198 H198
    refine fin ?_
    refine then_n ?_
    refine wp_seq ?_
    refine wp_seq ?_
    refine reg ?_
    refine plain (y_move rfl rfl) rfl rfl rfl H198 ?_
    clear H198; intro a199 H199
    refine plain (y_peql rfl Tryd.underlying68 rfl rfl) rfl rfl rfl H199 ?_
    clear H199; intro a200 H200
    refine fin ?_
    refine then_n ?_
    refine cnd_f H200 rfl ?_
    refine wp_skip ?_
    refine then_n ?_
    refine wp_seq ?_
    replace H200 := H200.nilRow 30 36
    refine reg ?_
    refine plain (y_move rfl rfl) rfl rfl rfl H200 ?_
    clear H200; intro a202 H202
    refine plain (y_loadAB rfl z_agg30 z_size30 rfl (by repeat (first | exact Mh | apply Mt)) (q_ld_c4b32_0_36 (by assumption)) (q_len_c4b32 (by assumption))) rfl rfl rfl H202 ?_
    clear H202; intro a203 H203
    refine st_callk2 (is := [It.blk b 111 [i64 0, .map (some h)], It.mp h (fun _ => none), It.row 30 36 (.slice none 0 0 : Value) ([] : List Note.Bid).length (Auction.bdc ([] : List Note.Bid))]) (enters_call rfl z_call34 rfl) rfl rfl rfl H203 (.cons (by repeat (first | exact Ph | apply Pt)) (.cons (by repeat (first | exact Ph | apply Pt)) (.cons (by repeat (first | exact Ph | apply Pt)) (.nil _)))) (fun hs => abid 0 [] (fun _ hq => absurd hq (by simp)) (by simp) (fun _ => none) (.slice none 0 0 : Value) b h x wx (-1) rfl hs (hG.frm H203.sep.frm (by simp)) (fps_new H203.sep (.cons (by repeat (first | exact Ph | apply Pt)) (.cons (by repeat (first | exact Ph | apply Pt)) (.cons (by repeat (first | exact Ph | apply Pt)) (.nil _)))) hG (by decide))) ?_
    clear H203; intro v204 l204 a204 wx204 hf204 H204
    obtain ⟨rfl, f1, v1, hv1, hf1, rfl⟩ := hf204
    simp only [List.cons_append, List.nil_append] at H204
    refine fin ?_
    refine then_n ?_
    refine wp_seq ?_
    refine reg ?_
    refine plain (y_move rfl rfl) rfl rfl rfl H204 ?_
    clear H204; intro a205 H205
    refine plain (y_fieldB rfl z_field30_0 rfl (by first | (simp only [Nat.zero_add, Nat.add_zero, Nat.reduceAdd]; rfl) | rfl)) rfl rfl rfl H205 ?_
    clear H205; intro a206 H206
    refine plain (y_loadB rfl z_agg3 rfl (by repeat (first | exact Mh | apply Mt)) q_ix_c4b32_0) rfl rfl rfl H206 ?_
    clear H206; intro a207 H207
    refine st_call rfl z_call35 rfl rfl rfl rfl H207 (abids 0 (Auction.bidL 0 [] x (-1)) hxs hxl f1 v1 b h x.round hv1 (H207.sep.all _ (by repeat (first | exact Mh | apply Mt))) (H207.sep.all _ (by repeat (first | exact Mh | apply Mt))) (H207.sep.all _ (by repeat (first | exact Mh | apply Mt)))) ?_
    clear H207; intro v208 l208 a208 wx208 hf208 H208
    obtain rfl := hf208
    simp only [List.cons_append, List.nil_append] at H208
    obtain ⟨ArS, crS, hvrS, hRrS, hmrS⟩ := row_shape (v := v208) H208.sep (by repeat (first | exact Mh | apply Mt))
    subst hvrS
    refine plain (y_assign rfl rfl) rfl rfl rfl H208 ?_
    clear H208; intro a209 H209
    refine fin ?_
    refine then_n ?_
    refine wp_seq ?_
    refine reg ?_
    refine plain (y_move rfl rfl) rfl rfl rfl H209 ?_
    clear H209; intro a210 H210
    refine plain (y_fieldB rfl z_field30_0 rfl (by first | (simp only [Nat.zero_add, Nat.add_zero, Nat.reduceAdd]; rfl) | rfl)) rfl rfl rfl H210 ?_
    clear H210; intro a211 H211
    refine plain (y_loadB rfl z_agg3 rfl (by repeat (first | exact Mh | apply Mt)) q_ix_c4b32_0) rfl rfl rfl H211 ?_
    clear H211; intro a212 H212
    refine st_callg rfl z_call31 rfl rfl rfl rfl H212 (acloseK b x.round _) ?_
    clear H212; intro a213 wx213 H213
    refine plain (y_move rfl rfl) rfl rfl rfl H213 ?_
    clear H213; intro a214 H214
    refine plain (y_extract rfl rfl rfl) rfl rfl rfl H214 ?_
    clear H214; intro a215 H215
    refine plain (y_extract rfl rfl rfl) rfl rfl rfl H215 ?_
    clear H215; intro a216 H216
    refine st_alloc rfl z_zeroN32 rfl rfl rfl H216 ?_
    clear H216; intro b217 a217 wx217 H217
    refine st_storeN rfl z_size32 rfl rfl (agg_cells _) (by repeat (first | exact Uh | apply Ut)) (q_one_c4b32c1 rfl rfl rfl rfl rfl) (q_len_c4b32c1 (by assumption)) (q_len_c4b32c1 (by assumption)) (q_spl_c4b32c1_0_c4b32c1 (by assumption) (by assumption)) (by decide) rfl rfl H217 ?_
    clear H217; intro wx218 H218
    refine plain (y_assign rfl rfl) rfl rfl rfl H218 ?_
    clear H218; intro a219 H219
    refine fin ?_
    refine then_n ?_
    refine wp_seq ?_
    refine reg ?_
    refine st_callg rfl z_call15 rfl rfl rfl rfl H219 (aawake (hG.frm H219.sep.frm (by simp))) ?_
    clear H219; intro a220 wx220 H220
    refine plain (y_move rfl rfl) rfl rfl rfl H220 ?_
    clear H220; intro a221 H221
    refine plain (y_move rfl rfl) rfl rfl rfl H221 ?_
    clear H221; intro a222 H222
    refine plain (y_loadAB rfl z_agg30 z_size30 rfl (by repeat (first | exact Mh | apply Mt)) (q_ld_c4b32_0_36 (by assumption)) (q_len_c4b32 (by assumption))) rfl rfl rfl H222 ?_
    clear H222; intro a223 H223
    refine st_callg rfl z_call34 rfl rfl rfl rfl H223 (abidN x wx 0 _) ?_
    clear H223; intro a224 wx224 H224
    refine plain (y_eql rfl rfl rfl) rfl rfl rfl H224 ?_
    clear H224; intro a225 H225
    refine plain (y_pick_t rfl rfl rfl) rfl rfl rfl H225 ?_
    clear H225; intro a226 H226
    refine plain (y_move rfl rfl) rfl rfl rfl H226 ?_
    clear H226; intro a227 H227
    have H229 := H227.know (d := 46) (v := .bool true) rfl ((by first | rfl | exact congrArg Value.bool (decide_eq_true (by first | rfl | decide))))
    clear H227
    refine plain (y_move rfl rfl) rfl rfl rfl H229 ?_
    clear H229; intro a230 H230
    refine plain (y_fieldB rfl z_field30_0 rfl (by first | (simp only [Nat.zero_add, Nat.add_zero, Nat.reduceAdd]; rfl) | rfl)) rfl rfl rfl H230 ?_
    clear H230; intro a231 H231
    refine plain (y_loadB rfl z_agg3 rfl (by repeat (first | exact Mh | apply Mt)) q_ix_c4b32_0) rfl rfl rfl H231 ?_
    clear H231; intro a232 H232
    refine st_callg rfl z_call35 rfl rfl rfl rfl H232 (abidsN x.round _) ?_
    clear H232; intro a233 wx233 H233
    refine plain (y_len rfl Tryd.underlying22 rfl) rfl rfl rfl H233 ?_
    clear H233; intro a234 H234
    refine plain (y_eql rfl rfl rfl) rfl rfl rfl H234 ?_
    clear H234; intro a235 H235
    refine plain (y_pick_t rfl rfl rfl) rfl rfl rfl H235 ?_
    clear H235; intro a236 H236
    refine plain (y_move rfl rfl) rfl rfl rfl H236 ?_
    clear H236; intro a237 H237
    have H239 := H237.know (d := 54) (v := .bool true) rfl ((by first | rfl | exact congrArg Value.bool (decide_eq_true (by first | rfl | decide))))
    clear H237
    refine plain (y_loadAB rfl z_agg32 z_size32 rfl (by repeat (first | exact Mh | apply Mt)) (q_ld_c4b32c1_0_37 (by assumption)) (q_len_c4b32c1 (by assumption))) rfl rfl rfl H239 ?_
    clear H239; intro a240 H240
    refine plain (y_build rfl z_zeroN32 z_places32 rfl lay_n) rfl rfl rfl H240 ?_
    clear H240; intro a241 H241
    refine plain (y_teql rfl (by kernel_rfl) rfl rfl (eqr_Win Auction.Win.zero Auction.Win.zero rfl rfl)) rfl rfl rfl H241 ?_
    clear H241; intro a242 H242
    refine plain (y_pick_t rfl rfl rfl) rfl rfl rfl H242 ?_
    clear H242; intro a243 H243
    refine plain (y_move rfl rfl) rfl rfl rfl H243 ?_
    clear H243; intro a244 H244
    have H246 := H244.know (d := 59) (v := .bool true) rfl ((by first | rfl | exact congrArg Value.bool (decide_eq_true (by first | rfl | decide))))
    clear H244
    refine plain (y_move rfl rfl) rfl rfl rfl H246 ?_
    clear H246; intro a247 H247
    refine plain ((by first | exact y_not_d rfl rfl | exact y_not rfl rfl)) rfl rfl rfl H247 ?_
    clear H247; intro a248 H248
    refine plain (y_pick_t rfl rfl rfl) rfl rfl rfl H248 ?_
    clear H248; intro a249 H249
    refine plain (y_move rfl rfl) rfl rfl rfl H249 ?_
    clear H249; intro a250 H250
    have H252 := H250.know (d := 63) (v := .bool true) rfl ((by first | rfl | exact congrArg Value.bool (decide_eq_true (by first | rfl | decide))))
    clear H250
    refine plain (y_loadAB rfl z_agg32 z_size32 rfl (by repeat (first | exact Mh | apply Mt)) (q_ld_c4b32c1_0_37 (by assumption)) (q_len_c4b32c1 (by assumption))) rfl rfl rfl H252 ?_
    clear H252; intro a253 H253
    refine plain (y_build rfl z_zeroN32 z_places32 rfl lay_n) rfl rfl rfl H253 ?_
    clear H253; intro a254 H254
    refine plain (y_teql rfl (by kernel_rfl) rfl rfl (eqr_Win Auction.Win.zero Auction.Win.zero rfl rfl)) rfl rfl rfl H254 ?_
    clear H254; intro a255 H255
    refine plain (y_pick_t rfl rfl rfl) rfl rfl rfl H255 ?_
    clear H255; intro a256 H256
    refine plain (y_move rfl rfl) rfl rfl rfl H256 ?_
    clear H256; intro a257 H257
    have H259 := H257.know (d := 68) (v := .bool true) rfl ((by first | rfl | exact congrArg Value.bool (decide_eq_true (by first | rfl | decide))))
    clear H257
    refine plain (y_move rfl rfl) rfl rfl rfl H259 ?_
    clear H259; intro a260 H260
    refine plain ((by first | exact y_not_d rfl rfl | exact y_not rfl rfl)) rfl rfl rfl H260 ?_
    clear H260; intro a261 H261
    refine plain (y_pick_t rfl rfl rfl) rfl rfl rfl H261 ?_
    clear H261; intro a262 H262
    refine plain (y_move rfl rfl) rfl rfl rfl H262 ?_
    clear H262; intro a263 H263
    have H265 := H263.know (d := 72) (v := .bool true) rfl ((by first | rfl | exact congrArg Value.bool (decide_eq_true (by first | rfl | decide))))
    clear H263
    refine plain (y_move rfl rfl) rfl rfl rfl H265 ?_
    clear H265; intro a266 H266
    refine plain (y_move rfl rfl) rfl rfl rfl H266 ?_
    clear H266; intro a267 H267
    refine plain (y_fieldB rfl z_field30_0 rfl (by first | (simp only [Nat.zero_add, Nat.add_zero, Nat.reduceAdd]; rfl) | rfl)) rfl rfl rfl H267 ?_
    clear H267; intro a268 H268
    refine plain (y_loadB rfl z_agg3 rfl (by repeat (first | exact Mh | apply Mt)) q_ix_c4b32_0) rfl rfl rfl H268 ?_
    clear H268; intro a269 H269
    refine st_call rfl z_call35 rfl rfl rfl rfl H269 (abids 0 (Auction.bidL 0 [] x (-1)) hxs hxl f1 v1 b h x.round hv1 (H269.sep.all _ (by repeat (first | exact Mh | apply Mt))) (H269.sep.all _ (by repeat (first | exact Mh | apply Mt))) (H269.sep.all _ (by repeat (first | exact Mh | apply Mt)))) ?_
    clear H269; intro v270 l270 a270 wx270 hf270 H270
    obtain rfl := hf270
    simp only [List.cons_append, List.nil_append] at H270
    obtain ⟨ArT, crT, hvrT, hRrT, hmrT⟩ := row_shape (v := v270) H270.sep (by repeat (first | exact Mh | apply Mt))
    subst hvrT
    refine st_callg rfl z_call36 rfl rfl rfl rfl H270 (xsame (Auction.bidL 0 [] x (-1)) hxs ArS ArT crS crT hxl (Rd.ofSep (rd_row (by repeat (first | exact Mh | apply Mt))) H270.sep) (Rd.ofSep (rd_row (by repeat (first | exact Mh | apply Mt))) H270.sep)) ?_
    clear H270; intro a271 wx271 H271
    refine plain (y_pick_t rfl rfl rfl) rfl rfl rfl H271 ?_
    clear H271; intro a272 H272
    refine plain (y_assign rfl rfl) rfl rfl rfl H272 ?_
    clear H272; intro a273 H273
    refine fin ?_
    refine then_n ?_
    refine wp_ret ?_
    -- return 3
    refine ret1 rfl H273 rfl ?_
    exact ⟨_, [], rfl, ⟨rfl, rfl⟩, H273.sep.sub (List.nil_sublist _)⟩

end Go.Proofs.YtaeahloenahelaaDoor.A_L8

set_option linter.unusedVariables false
set_option linter.unusedSimpArgs false
namespace Go.Proofs.YtaeahloenahelaaDoor.A_Rd
open Go.Sx Go.RowKit

theorem rd_Bid {H : Type} {enc : TypeId × Value → H} {W : World} {sp : Nat → Bool} {held : Bool} {cs : List Value} (h : Trw enc Tryd.prog W sp held 30 cs) : ∃ (x : Note.Bid), cs = Note.Bid.cells x ∧ Note.Bid.Wf x := by
  have hp := h.pieces Tryd.underlying30 [1, 1, 1, 1, 32] (by kernel_rfl)
  obtain ⟨v0, e0, w0⟩ := (h.field Tryd.underlying30 0 rfl (o := 0) rfl (T := 3) rfl (k := 1) (by kernel_rfl)).i64 Tryd.underlying3
  obtain ⟨v1, e1, w1⟩ := (h.field Tryd.underlying30 1 rfl (o := 1) rfl (T := 3) rfl (k := 1) (by kernel_rfl)).i64 Tryd.underlying3
  obtain ⟨v2, e2, w2⟩ := (h.field Tryd.underlying30 2 rfl (o := 2) rfl (T := 3) rfl (k := 1) (by kernel_rfl)).i64 Tryd.underlying3
  obtain ⟨v3, e3, w3⟩ := (h.field Tryd.underlying30 3 rfl (o := 3) rfl (T := 3) rfl (k := 1) (by kernel_rfl)).i64 Tryd.underlying3
  obtain ⟨v4, e4, w4⟩ := (h.field Tryd.underlying30 4 rfl (o := 4) rfl (T := 28) rfl (k := 32) (by kernel_rfl)).bytes Tryd.underlying28 Tryd.underlying5 (by kernel_rfl) (by kernel_rfl)
  refine ⟨⟨v0, v1, v2, v3, v4⟩, ?_, w0, w1, w2, w3, w4⟩
  rw [hp]
  simp only [Sx.pieces, Nat.zero_add, Nat.reduceAdd, e0, e1, e2, e3, e4]
  first | rfl | simp [Note.Bid.cells]
end Go.Proofs.YtaeahloenahelaaDoor.A_Rd
