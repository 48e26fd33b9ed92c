/- Part of a proof about given Go functions: contracts of functions, or plain laws. -/
import Derived.Test.YtaeahloenahelaaDoorS8
import Derived.Test.YtaeahloenahelaaDoorS5
import Derived.Test.YtaeahloenahelaaDoorS6
import Derived.Test.YtaeahloenahelaaDoorS7
import Derived.Test.YtaeahloenahelaaDoorS4
import Derived.Test.YtaeahloenahelaaDoorS1
import Derived.Test.YtaeahloenahelaaDoorS2
import Derived.Test.YtaeahloenahelaaDoorS3
import Derived.Test.YtaeahloenahelaaDoorProg
import Derived.Test.YtaeahloenahelaaDoorW1
import Derived.Test.YtaeahloenahelaaDoorW2
import Derived.Test.YtaeahloenahelaaDoorW3
set_option linter.unusedVariables false
set_option linter.unusedSimpArgs false
namespace Go.Proofs.YtaeahloenahelaaDoor.A_Xb2
open Go.Sx Go.RowKit Go.Proofs.YtaeahloenahelaaDoor.A_Block Go.Proofs.YtaeahloenahelaaDoor.A_Sum Go.Proofs.YtaeahloenahelaaDoor.A_Ref Go.Proofs.YtaeahloenahelaaDoor.A_RSum Go.Proofs.YtaeahloenahelaaDoor.A_Leaf Go.Proofs.YtaeahloenahelaaDoor.A_Num Go.Proofs.YtaeahloenahelaaDoor.A_Key Go.Proofs.YtaeahloenahelaaDoor.A_Ref Go.Proofs.YtaeahloenahelaaDoor.A_RSum Go.Proofs.YtaeahloenahelaaDoor.A_Tag Go.Proofs.YtaeahloenahelaaDoor.A_Lay Go.Proofs.YtaeahloenahelaaDoor.A_Eq Go.Proofs.YtaeahloenahelaaDoor.A_Ref0 Go.Proofs.YtaeahloenahelaaDoor.A_Sign Go.Proofs.YtaeahloenahelaaDoor.A_RefB Go.Proofs.YtaeahloenahelaaDoor.A_Win Go.Proofs.YtaeahloenahelaaDoor.A_RWin Go.Proofs.YtaeahloenahelaaDoor.A_Law Go.Proofs.YtaeahloenahelaaDoor.A_EqW Go.Proofs.YtaeahloenahelaaDoor.A_RCnt Go.Proofs.YtaeahloenahelaaDoor.A_Bk2 Go.Proofs.YtaeahloenahelaaDoor.A_Xb1

theorem z_zeroN32 : zeroL Tryd.prog 32 = some ((.int .i64 0 :: (.int .i64 0 :: (.int .i64 0 :: (.int .i64 0 :: ((List.replicate 32 (0 : UInt8)).map u8 ++ (.int .i64 0 :: []))))))) := by kernel_rfl
theorem z_field90_0 : fieldB Tryd.prog 90 0 = some 0 := by kernel_rfl
theorem z_agg23 : aggB Tryd.prog 23 = some false := by kernel_rfl
theorem q_ix_c1_0 {a0 : Value} : (a0 :: [])[0]? = some a0 := ix_0
theorem z_field81_0 : fieldB Tryd.prog 81 0 = some 0 := by kernel_rfl
theorem z_agg3 : aggB Tryd.prog 3 = some false := by kernel_rfl
theorem q_ix_c2_0 {a0 a1 : Value} : (a0 :: a1 :: [])[0]? = some a0 := ix_0
theorem z_call42 : callB Tryd.prog 42 = true := by kernel_rfl
theorem z_call14 : callB Tryd.prog 14 = true := by kernel_rfl
theorem z_size32 : sizeB Tryd.prog 32 = some 37 := by kernel_rfl
theorem q_one_c4b32c1 {a0 a1 a2 a3 a5 : Value} {t4 : List UInt8} (o0 : a0.oneCell' = true) (o1 : a1.oneCell' = true) (o2 : a2.oneCell' = true) (o3 : a3.oneCell' = true) (o5 : a5.oneCell' = true) : (a0 :: a1 :: a2 :: a3 :: (t4.map u8 ++ (a5 :: []))).all (·.oneCell') = true := (one_c o0 (one_c o1 (one_c o2 (one_c o3 (one_b (one_c o5 one_n))))))
theorem q_len_c4b32c1 {a0 a1 a2 a3 a5 : Value} {t4 : List UInt8} (h4 : t4.length = 32) : (a0 :: a1 :: a2 :: a3 :: (t4.map u8 ++ (a5 :: []))).length = 37 := (len_c (n := 36) (len_c (n := 35) (len_c (n := 34) (len_c (n := 33) (len_b (k := 32) (n := 1) h4 (len_c (n := 0) len_n))))))
theorem q_spl_c4b32c1_0_c4b32c1 {a0 a1 a2 a3 a5 : Value} {t4 : List UInt8} {b0 b1 b2 b3 b5 : Value} {s4 : List UInt8} (h4 : t4.length = 32) (g4 : s4.length = 32) : spl (a0 :: a1 :: a2 :: a3 :: (t4.map u8 ++ (a5 :: []))) 0 (b0 :: b1 :: b2 :: b3 :: (s4.map u8 ++ (b5 :: []))) = b0 :: b1 :: b2 :: b3 :: (s4.map u8 ++ (b5 :: [])) := (spl_a (z := 37) (len_c (n := 36) (len_c (n := 35) (len_c (n := 34) (len_c (n := 33) (len_b (k := 32) (n := 1) h4 (len_c (n := 0) len_n)))))) (len_c (n := 36) (len_c (n := 35) (len_c (n := 34) (len_c (n := 33) (len_b (k := 32) (n := 1) g4 (len_c (n := 0) len_n)))))))
theorem z_field81_1 : fieldB Tryd.prog 81 1 = some 1 := by kernel_rfl
theorem z_agg22 : aggB Tryd.prog 22 = some false := by kernel_rfl
theorem q_ix_c2_1 {a0 a1 : Value} : (a0 :: a1 :: [])[1]? = some a1 := (ix_c (o := 0) ix_0)
theorem z_size30 : sizeB Tryd.prog 30 = some 36 := by kernel_rfl
theorem z_field30_0 : fieldB Tryd.prog 30 0 = some 0 := by kernel_rfl
theorem z_agg30 : aggB Tryd.prog 30 = some true := by kernel_rfl
theorem z_zero30 : zeroL Tryd.prog 30 = some ([.int .i64 0, .int .i64 0, .int .i64 0, .int .i64 0, .int .u8 0, .int .u8 0, .int .u8 0, .int .u8 0, .int .u8 0, .int .u8 0, .int .u8 0, .int .u8 0, .int .u8 0, .int .u8 0, .int .u8 0, .int .u8 0, .int .u8 0, .int .u8 0, .int .u8 0, .int .u8 0, .int .u8 0, .int .u8 0, .int .u8 0, .int .u8 0, .int .u8 0, .int .u8 0, .int .u8 0, .int .u8 0, .int .u8 0, .int .u8 0, .int .u8 0, .int .u8 0, .int .u8 0, .int .u8 0, .int .u8 0, .int .u8 0]) := by kernel_rfl
theorem z_slice22 : sliceB Tryd.prog 22 = some (30, 36, 64) := by kernel_rfl
theorem z_notint22 : notIntB Tryd.prog 22 = true := by kernel_rfl
theorem z_size22 : sizeB Tryd.prog 22 = some 1 := by kernel_rfl
theorem q_len_c2 {a0 a1 : Value} : (a0 :: a1 :: []).length = 2 := (len_c (n := 1) (len_c (n := 0) len_n))
theorem q_set_c2_1 {a0 a1 : Value} {v : Value} : (a0 :: a1 :: []).set 1 v = a0 :: v :: [] := (set_c (o := 0) set_0)
theorem z_field32_0 : fieldB Tryd.prog 32 0 = some 0 := by kernel_rfl
theorem z_field30_1 : fieldB Tryd.prog 30 1 = some 1 := by kernel_rfl
theorem q_ix_c4b32c1_1 {a0 a1 a2 a3 a5 : Value} {t4 : List UInt8} : (a0 :: a1 :: a2 :: a3 :: (t4.map u8 ++ (a5 :: [])))[1]? = some a1 := (ix_c (o := 0) ix_0)
theorem z_field32_1 : fieldB Tryd.prog 32 1 = some 36 := by kernel_rfl
theorem q_ix_c4b32c1_36 {a0 a1 a2 a3 a5 : Value} {t4 : List UInt8} (h4 : t4.length = 32) : (a0 :: a1 :: a2 :: a3 :: (t4.map u8 ++ (a5 :: [])))[36]? = some a5 := (ix_c (o := 35) (ix_c (o := 34) (ix_c (o := 33) (ix_c (o := 32) (ix_b (k := 32) (o := 0) h4 rfl ix_0)))))
theorem z_call67 : callB Tryd.prog 67 = true := by kernel_rfl
theorem z_agg32 : aggB Tryd.prog 32 = some true := by kernel_rfl
theorem q_ld_c4b32c1_0_37 {a0 a1 a2 a3 a5 : Value} {t4 : List UInt8} (h4 : t4.length = 32) : ((a0 :: a1 :: a2 :: a3 :: (t4.map u8 ++ (a5 :: []))).drop 0).take 37 = a0 :: a1 :: a2 :: a3 :: (t4.map u8 ++ (a5 :: [])) := (ld_a (len_c (n := 36) (len_c (n := 35) (len_c (n := 34) (len_c (n := 33) (len_b (k := 32) (n := 1) h4 (len_c (n := 0) len_n)))))))

set_option maxRecDepth 100000 in
set_option maxHeartbeats 4000000 in
theorem xclose (floor : Int) (L : List Note.Bid) (hL : Auction.Wfb L) (hll : L.length ≤ 1000) (x : Nat) (v : Value) (r : Int) (bx g : Nat) (B : List Int) (hB : Bank.Ok B) {w : World} (hs : Sep (fps [It.row 30 36 v L.length (Auction.bdc L), It.blk x 81 [i64 floor, v], It.blk bx 90 [.slice (some ⟨g, 0, none⟩) 64 64], It.blk g 3 (B.map i64)]) w w [It.row 30 36 v L.length (Auction.bdc L), It.blk x 81 [i64 floor, v], It.blk bx 90 [.slice (some ⟨g, 0, none⟩) 64 64], It.blk g 3 (B.map i64)]) : Calls Tryd.prog 41 #[.pointer (some ⟨x, 0, none⟩), .int .i64 r, .pointer (some ⟨bx, 0, none⟩)] w (Post (fps [It.row 30 36 v L.length (Auction.bdc L), It.blk x 81 [i64 floor, v], It.blk bx 90 [.slice (some ⟨g, 0, none⟩) 64 64], It.blk g 3 (B.map i64)]) w fun u l' => u = .tuple #[.agg (Auction.Win.cells (Auction.win (Auction.of L r) B r floor).1).toArray, .bool (Auction.win (Auction.of L r) B r floor).2] ∧ ∃ v', l' = [It.row 30 36 v' (Auction.less L r).length (Auction.bdc (Auction.less L r)), It.blk x 81 [i64 floor, v'], It.blk bx 90 [.slice (some ⟨g, 0, none⟩) 64 64], It.blk g 3 ((Auction.paid B (Auction.win (Auction.of L r) B r floor)).map i64)]) := by
  obtain ⟨A, cc, rfl, hRx, hmx⟩ := row_shape (v := v) hs (by repeat (first | exact Mh | apply Mt))
  have hcap := row_cap (A := A) (c := cc) hs (by repeat (first | exact Mh | apply Mt))
  have hxs := Auction.of_wf hL r
  have hxl := Auction.of_len L r
  have hwt := Auction.win_tag hxs B r floor
  have hZl : Note.Z.length = 32 := Note.Z_len
  have hbg : bx ≠ g := hs.ne_of (by repeat (first | exact Mh | apply Mt)) (by repeat (first | exact Mh | apply Mt))
  have lz32 : (List.replicate 32 (0 : UInt8)).length = 32 := List.length_replicate
  refine enterL (args := [.pointer (some ⟨x, 0, none⟩), .int .i64 r, .pointer (some ⟨bx, 0, none⟩)]) Tryd.func41 rfl rfl (l := [It.row 30 36 (.slice A L.length cc) L.length (Auction.bdc L), It.blk x 81 [i64 floor, (.slice A L.length cc)], It.blk bx 90 [.slice (some ⟨g, 0, none⟩) 64 64], It.blk g 3 (B.map i64)]) hs ?_
  intro a0 H0
  refine wp_seq ?_
  refine reg ?_
  refine st_alloc rfl z_zeroN32 rfl rfl rfl H0 ?_
  clear H0; intro b1 a1 wx1 H1
  refine plain (y_assign rfl rfl) rfl rfl rfl H1 ?_
  clear H1; intro a2 H2
  refine fin ?_
  refine then_n ?_
  refine wp_seq ?_
  refine hreg _ (fun _ h => h) (by kernel_rfl) H2 ?_
  clear H2; intro wx3 H3
  refine htake 0 rfl (by kernel_rfl) (y_move rfl rfl) rfl rfl rfl (fun _ h => (h.sub (by first | exact S0 | exact S1 | repeat (first | exact S1 | exact S0 | apply S2 | apply S3)))) H3 ?_
  clear H3; intro a4 H4
  refine htake 1 rfl (by kernel_rfl) (y_move rfl rfl) rfl rfl rfl (fun _ h => (h.sub (by first | exact S0 | exact S1 | repeat (first | exact S1 | exact S0 | apply S2 | apply S3)))) H4 ?_
  clear H4; intro a5 H5
  refine htake 3 rfl (by kernel_rfl) (y_move rfl rfl) rfl rfl rfl (fun _ h => (h.sub (by first | exact S0 | exact S1 | repeat (first | exact S1 | exact S0 | apply S2 | apply S3)))) H5 ?_
  clear H5; intro a6 H6
  refine htake 4 rfl (by kernel_rfl) (y_nilCheck rfl rfl) rfl rfl rfl (fun _ h => (h.sub (by first | exact S0 | exact S1 | repeat (first | exact S1 | exact S0 | apply S2 | apply S3)))) H6 ?_
  clear H6; intro a7 H7
  refine htake 5 rfl (by kernel_rfl) (y_fieldB rfl z_field90_0 rfl (by first | (simp only [Nat.zero_add, Nat.add_zero, Nat.reduceAdd]; rfl) | rfl)) rfl rfl rfl (fun _ h => (h.sub (by first | exact S0 | exact S1 | repeat (first | exact S1 | exact S0 | apply S2 | apply S3)))) H7 ?_
  clear H7; intro a8 H8
  refine htake 6 rfl (by kernel_rfl) (y_loadB rfl z_agg23 rfl (by repeat (first | exact Mh | apply Mt)) q_ix_c1_0) rfl rfl rfl (fun _ h => (h.sub (by first | exact S0 | exact S1 | repeat (first | exact S1 | exact S0 | apply S2 | apply S3)))) H8 ?_
  clear H8; intro a9 H9
  refine htake 7 rfl (by kernel_rfl) (y_move rfl rfl) rfl rfl rfl (fun _ h => (h.sub (by first | exact S0 | exact S1 | repeat (first | exact S1 | exact S0 | apply S2 | apply S3)))) H9 ?_
  clear H9; intro a10 H10
  refine htake 8 rfl (by kernel_rfl) (y_move rfl rfl) rfl rfl rfl (fun _ h => (h.sub (by first | exact S0 | exact S1 | repeat (first | exact S1 | exact S0 | apply S2 | apply S3)))) H10 ?_
  clear H10; intro a11 H11
  refine htake 9 rfl (by kernel_rfl) (y_nilCheck rfl rfl) rfl rfl rfl (fun _ h => (h.sub (by first | exact S0 | exact S1 | repeat (first | exact S1 | exact S0 | apply S2 | apply S3)))) H11 ?_
  clear H11; intro a12 H12
  refine htake 10 rfl (by kernel_rfl) (y_fieldB rfl z_field81_0 rfl (by first | (simp only [Nat.zero_add, Nat.add_zero, Nat.reduceAdd]; rfl) | rfl)) rfl rfl rfl (fun _ h => (h.sub (by first | exact S0 | exact S1 | repeat (first | exact S1 | exact S0 | apply S2 | apply S3)))) H12 ?_
  clear H12; intro a13 H13
  refine htake 11 rfl (by kernel_rfl) (y_loadB rfl z_agg3 rfl (by repeat (first | exact Mh | apply Mt)) q_ix_c2_0) rfl rfl rfl (fun _ h => (h.sub (by first | exact S0 | exact S1 | repeat (first | exact S1 | exact S0 | apply S2 | apply S3)))) H13 ?_
  clear H13; intro a14 H14
  refine hgo2 2 16 rfl rfl (by kernel_rfl) ?_ ?_
  · skip
    refine st_call rfl z_call42 rfl rfl rfl rfl H14 (xbids floor L hL hll x (.slice A L.length cc) r (H14.sep.all _ (by repeat (first | exact Mh | apply Mt))) (H14.sep.all _ (by repeat (first | exact Mh | apply Mt)))) ?_
    clear H14; intro v15 l15 a15 wx15 hf15 H15
    obtain rfl := hf15
    simp only [List.cons_append, List.nil_append] at H15
    obtain ⟨ArS, crS, hvrS, hRrS, hmrS⟩ := row_shape (v := v15) H15.sep (by repeat (first | exact Mh | apply Mt))
    subst hvrS
    refine hfinA H15.sep ?_
    refine hgo2 12 16 rfl rfl (by kernel_rfl) ?_ ?_
    · skip
      refine st_callg rfl z_call14 rfl rfl rfl rfl H15 (rwin (Auction.of L r) B r floor ArS (some ⟨g, 0, none⟩) _ 64 crS 64 rfl hB.len.symm (by omega) (by rw [hB.len]; decide) hxs (Rd.ofSep (rd_row (by repeat (first | exact Mh | apply Mt))) H15.sep) (Rd.ofSep (rd_blkA (by repeat (first | exact Mh | apply Mt))) H15.sep)) ?_
      clear H15; intro a16 wx16 H16
      refine hfinA H16.sep ?_
      refine htake 13 rfl (by kernel_rfl) (y_move rfl rfl) rfl rfl rfl (fun _ h => (h.sub (by first | exact S0 | exact S1 | repeat (first | exact S1 | exact S0 | apply S2 | apply S3)))) H16 ?_
      clear H16; intro a17 H17
      refine htake 14 rfl (by kernel_rfl) (y_extract rfl rfl rfl) rfl rfl rfl (fun _ h => (h.sub (by first | exact S0 | exact S1 | repeat (first | exact S1 | exact S0 | apply S2 | apply S3)))) H17 ?_
      clear H17; intro a18 H18
      refine htake 15 rfl (by kernel_rfl) (y_extract rfl rfl rfl) rfl rfl rfl (fun _ h => (h.sub (by first | exact S0 | exact S1 | repeat (first | exact S1 | exact S0 | apply S2 | apply S3)))) H18 ?_
      clear H18; intro a19 H19
      refine hgo 16 rfl (by kernel_rfl) ?_
      refine st_alloc rfl z_zeroN32 rfl rfl rfl H19 ?_
      clear H19; intro b20 a20 wx20 H20
      refine hfinA H20.sep ?_
      refine hgo 17 rfl (by kernel_rfl) ?_
      refine st_storeN rfl z_size32 rfl rfl (agg_cells _) (by repeat (first | exact Uh | apply Ut)) (q_one_c4b32c1 rfl rfl rfl rfl rfl) (q_len_c4b32c1 (by assumption)) (q_len_c4b32c1 (by assumption)) (q_spl_c4b32c1_0_c4b32c1 (by assumption) (by assumption)) (by decide) rfl rfl H20 ?_
      clear H20; intro wx21 H21
      refine hfinA H21.sep ?_
      refine htake 18 rfl (by kernel_rfl) (y_assign rfl rfl) rfl rfl rfl (fun _ h => (h.sub (by first | exact S0 | exact S1 | repeat (first | exact S1 | exact S0 | apply S2 | apply S3)))) H21 ?_
      clear H21; intro a22 H22
      refine hdone (by kernel_rfl) ?_
      refine then_n ?_
      refine wp_seq ?_
      refine reg ?_
      refine plain (y_assign rfl rfl) rfl rfl rfl H22 ?_
      clear H22; intro a23 H23
      refine fin ?_
      refine then_n ?_
      refine wp_seq ?_
      refine wp_seq ?_
      refine reg ?_
      refine plain (y_assign rfl rfl) rfl rfl rfl H23 ?_
      clear H23; intro a24 H24
      refine fin ?_
      refine then_n ?_
      refine wp_block ?_
      replace H24 := ((H24.only (is := [It.blk b20 32 (Auction.Win.cells (Auction.win (Auction.of L r) B r floor).1), It.blk b1 32 (Auction.Win.cells Auction.Win.zero), It.row 30 36 (.slice A L.length cc) L.length (Auction.bdc L), It.blk x 81 [i64 floor, (.slice A L.length cc)], It.blk bx 90 [.slice (some ⟨g, 0, none⟩) 64 64], It.blk g 3 (B.map i64)]) (.cons (by repeat (first | exact Ph | apply Pt)) (.cons (by repeat (first | exact Ph | apply Pt)) (.cons (by repeat (first | exact Ph | apply Pt)) (.cons (by repeat (first | exact Ph | apply Pt)) (.cons (by repeat (first | exact Ph | apply Pt)) (.cons (by repeat (first | exact Ph | apply Pt)) (.nil _))))))))).nilRow 30 36
      refine loop (ι := Nat × Value) (fun z => [(0, .pointer (some ⟨x, 0, none⟩)), (1, .int .i64 r), (2, .pointer (some ⟨bx, 0, none⟩)), (6, .pointer (some ⟨b1, 0, none⟩)), (7, .bool false), (8, .pointer (some ⟨b20, 0, none⟩)), (9, .bool (Auction.win (Auction.of L r) B r floor).2), (10, z.2), (11, .int .i64 (z.1 : Int))]) (fun z => [It.row 30 36 z.2 (Auction.less (L.take z.1) r).length (Auction.bdc (Auction.less (L.take z.1) r)), It.blk b20 32 (Auction.Win.cells (Auction.win (Auction.of L r) B r floor).1), It.blk b1 32 (Auction.Win.cells Auction.Win.zero), It.row 30 36 (.slice A L.length cc) L.length (Auction.bdc L), It.blk x 81 [i64 floor, (.slice A L.length cc)], It.blk bx 90 [.slice (some ⟨g, 0, none⟩) 64 64], It.blk g 3 (B.map i64)]) (fun z => z.1 ≤ L.length) (fun z => L.length - z.1) ((0, (.slice none 0 0 : Value))) (Nat.zero_le _) (H24.weak ⟨rfl, rfl, rfl, rfl, rfl, rfl, rfl, rfl, rfl, trivial⟩ rfl) ?_
      clear H24; intro z a25 wx25 hok25 H25
      obtain ⟨k, v⟩ := z
      dsimp only at hok25 H25
      have hok := hok25
      obtain ⟨A1, c1, rfl, hR1, hm1⟩ := row_shape (v := v) H25.sep (by repeat (first | exact Mh | apply Mt))
      have hwl := Auction.less_len (L.take k) r
      rw [List.length_take] at hwl
      refine wp_seq ?_
      refine wp_seq ?_
      refine reg ?_
      refine plain (y_move rfl rfl) rfl rfl rfl H25 ?_
      clear H25; intro a26 H26
      refine plain (y_move rfl rfl) rfl rfl rfl H26 ?_
      clear H26; intro a27 H27
      refine plain (y_nilCheck rfl rfl) rfl rfl rfl H27 ?_
      clear H27; intro a28 H28
      refine plain (y_fieldB rfl z_field81_1 rfl (by first | (simp only [Nat.zero_add, Nat.add_zero, Nat.reduceAdd]; rfl) | rfl)) rfl rfl rfl H28 ?_
      clear H28; intro a29 H29
      refine plain (y_loadB rfl z_agg22 rfl (by repeat (first | exact Mh | apply Mt)) q_ix_c2_1) rfl rfl rfl H29 ?_
      clear H29; intro a30 H30
      refine plain (y_len rfl Tryd.underlying22 rfl) rfl rfl rfl H30 ?_
      clear H30; intro a31 H31
      refine plain (y_lss rfl rfl rfl) rfl rfl rfl H31 ?_
      clear H31; intro a32 H32
      refine fin ?_
      refine then_n ?_
      refine cnd H32 rfl (fun hc33 => ?_) (fun hc33 => ?_) -- cond 1
      · skip
        try simp only [decide_eq_true_eq, decide_eq_false_iff_not, Bool.not_eq_true', Bool.not_eq_false', Bool.and_eq_true, Bool.not_eq_true, Bool.not_eq_false] at hc33
        refine wp_skip ?_
        refine then_n ?_
        refine wp_seq ?_
        refine wp_block ?_
        refine wp_seq ?_
        have hkl : k < L.length := by omega
        have hwk := Auction.atD hL hkl
        have htg := hwk.tag
        refine reg ?_
        refine plain (y_move rfl rfl) rfl rfl rfl H32 ?_
        clear H32; intro a34 H34
        refine plain (y_nilCheck rfl rfl) rfl rfl rfl H34 ?_
        clear H34; intro a35 H35
        refine plain (y_fieldB rfl z_field81_1 rfl (by first | (simp only [Nat.zero_add, Nat.add_zero, Nat.reduceAdd]; rfl) | rfl)) rfl rfl rfl H35 ?_
        clear H35; intro a36 H36
        refine plain (y_loadB rfl z_agg22 rfl (by repeat (first | exact Mh | apply Mt)) q_ix_c2_1) rfl rfl rfl H36 ?_
        clear H36; intro a37 H37
        refine plain (y_move rfl rfl) rfl rfl rfl H37 ?_
        clear H37; intro a38 H38
        refine plain (y_ixR rfl Tryd.underlying22 z_size30 rfl rfl (by omega) (by omega) (rd_row (by repeat (first | exact Mh | apply Mt))) (by rw [Auction.bdc_len hL]; omega)) rfl rfl rfl H38 ?_
        clear H38; intro a39 H39
        refine plain (y_fieldS rfl z_field30_0 rfl (rd_row (by repeat (first | exact Mh | apply Mt))) (by rw [Auction.bdc_len hL]; omega)) rfl rfl rfl H39 ?_
        clear H39; intro a40 H40
        refine plain (y_loadR rfl z_agg3 rfl (rd_row (by repeat (first | exact Mh | apply Mt))) (by simp only [Int.toNat_natCast, Nat.zero_add, Nat.add_zero]; exact Auction.bdc_round hL hkl)) rfl rfl rfl H40 ?_
        clear H40; intro a41 H41
        refine plain (y_move rfl rfl) rfl rfl rfl H41 ?_
        clear H41; intro a42 H42
        refine plain (y_neq rfl rfl rfl) rfl rfl rfl H42 ?_
        clear H42; intro a43 H43
        refine fin ?_
        refine then_n ?_
        refine cnd H43 rfl (fun hc44 => ?_) (fun hc44 => ?_) -- cond 2
        · skip
          try simp only [decide_eq_true_eq, decide_eq_false_iff_not, Bool.not_eq_true', Bool.not_eq_false', Bool.and_eq_true, Bool.not_eq_true, Bool.not_eq_false] at hc44
          have isYes := True.intro
          refine reg ?_
          refine plain (y_move rfl rfl) rfl rfl rfl H43 ?_
          clear H43; intro a45 H45
          refine plain (y_move rfl rfl) rfl rfl rfl H45 ?_
          clear H45; intro a46 H46
          refine plain (y_nilCheck rfl rfl) rfl rfl rfl H46 ?_
          clear H46; intro a47 H47
          refine plain (y_fieldB rfl z_field81_1 rfl (by first | (simp only [Nat.zero_add, Nat.add_zero, Nat.reduceAdd]; rfl) | rfl)) rfl rfl rfl H47 ?_
          clear H47; intro a48 H48
          refine plain (y_loadB rfl z_agg22 rfl (by repeat (first | exact Mh | apply Mt)) q_ix_c2_1) rfl rfl rfl H48 ?_
          clear H48; intro a49 H49
          refine plain (y_move rfl rfl) rfl rfl rfl H49 ?_
          clear H49; intro a50 H50
          refine plain (y_ixR rfl Tryd.underlying22 z_size30 rfl rfl (by omega) (by omega) (rd_row (by repeat (first | exact Mh | apply Mt))) (by rw [Auction.bdc_len hL]; omega)) rfl rfl rfl H50 ?_
          clear H50; intro a51 H51
          refine plain (y_loadAS rfl z_agg30 z_size30 rfl (rd_row (by repeat (first | exact Mh | apply Mt))) (show _ = Note.Bid.cells (L.getD k Note.Bid.zero) from Auction.bdc_take hL k (by omega)) (Auction.bid_len htg) (by decide)) rfl rfl rfl H51 ?_
          clear H51; intro a52 H52
          refine st_buildSlice rfl Tryd.underlying22 z_size30 z_zero30 rfl rfl rfl (lay_agg (agg_cells _) (Auction.bid_len htg) (by simp)) rfl rfl rfl H52 ?_
          clear H52; intro b53 a53 wx53 H53
          refine st_append rfl z_slice22 z_notint22 rfl rfl (fun _ => (by repeat (first | exact Uh | apply Ut))) (fun w hs => Src.slice ((rd_blkA (by repeat (first | exact Mh | apply Mt))) w hs) (Auction.bid_len htg) (Auction.bid_cell _)) (by unfold maxLen at *; first | omega | (simp only [List.length_cons, List.length_nil, List.length_append, List.length_map]; omega)) (by omega) rfl rfl rfl H53 ?_
          clear H53; intro v54 a54 wx54 hnil54 H54
          obtain ⟨ArY, crY, hvrY, hRrY, hmrY⟩ := row_shape (v := v54) H54.sep (by repeat (first | exact Mh | apply Mt))
          subst hvrY
          refine plain (y_assign rfl rfl) rfl rfl rfl H54 ?_
          clear H54; intro a55 H55
          refine fin ?_
          refine inb_n ?_
          refine then_n ?_
          refine reg ?_
          refine plain (y_move rfl rfl) rfl rfl rfl H55 ?_
          clear H55; intro a56 H56
          refine plain (y_add rfl rfl rfl (by first | exact w64 (by omega) (by omega) | rfl)) rfl rfl rfl H56 ?_
          clear H56; intro a57 H57
          refine plain (y_assign rfl rfl) rfl rfl rfl H57 ?_
          clear H57; intro a58 H58
          refine fin ?_
          refine then_n ?_
          first | (have hz := isYes; refine ⟨(k + 1, .slice ArY ((Auction.less (L.take k) r).length + 1) crY), by dsimp only; omega, by dsimp only; omega, (H58.drop (List.Sublist.cons _ (List.Sublist.refl _))).weak ⟨rfl, rfl, rfl, rfl, rfl, rfl, rfl, rfl, fi rfl (by dsimp only; omega), trivial⟩ (by dsimp only; rw [Auction.less_yes hkl (by assumption), Auction.bdc_append, Auction.bdc_one, List.length_append]; rfl)⟩) | (refine ⟨(k + 1, .slice A1 (Auction.less (L.take k) r).length c1), by dsimp only; omega, by dsimp only; omega, H58.weak ⟨rfl, rfl, rfl, rfl, rfl, rfl, rfl, rfl, fi rfl (by dsimp only; omega), trivial⟩ (by dsimp only; rw [Auction.less_no hkl (by first | assumption | omega)])⟩)
        · skip
          try simp only [decide_eq_true_eq, decide_eq_false_iff_not, Bool.not_eq_true', Bool.not_eq_false', Bool.and_eq_true, Bool.not_eq_true, Bool.not_eq_false] at hc44
          refine wp_skip ?_
          refine inb_n ?_
          refine then_n ?_
          refine reg ?_
          refine plain (y_move rfl rfl) rfl rfl rfl H43 ?_
          clear H43; intro a59 H59
          refine plain (y_add rfl rfl rfl (by first | exact w64 (by omega) (by omega) | rfl)) rfl rfl rfl H59 ?_
          clear H59; intro a60 H60
          refine plain (y_assign rfl rfl) rfl rfl rfl H60 ?_
          clear H60; intro a61 H61
          refine fin ?_
          refine then_n ?_
          first | (have hz := isYes; refine ⟨(k + 1, .slice ArY ((Auction.less (L.take k) r).length + 1) crY), by dsimp only; omega, by dsimp only; omega, (H61.drop (List.Sublist.cons _ (List.Sublist.refl _))).weak ⟨rfl, rfl, rfl, rfl, rfl, rfl, rfl, rfl, fi rfl (by dsimp only; omega), trivial⟩ (by dsimp only; rw [Auction.less_yes hkl (by assumption), Auction.bdc_append, Auction.bdc_one, List.length_append]; rfl)⟩) | (refine ⟨(k + 1, .slice A1 (Auction.less (L.take k) r).length c1), by dsimp only; omega, by dsimp only; omega, H61.weak ⟨rfl, rfl, rfl, rfl, rfl, rfl, rfl, rfl, fi rfl (by dsimp only; omega), trivial⟩ (by dsimp only; rw [Auction.less_no hkl (by first | assumption | omega)])⟩)
      · skip
        try simp only [decide_eq_true_eq, decide_eq_false_iff_not, Bool.not_eq_true', Bool.not_eq_false', Bool.and_eq_true, Bool.not_eq_true, Bool.not_eq_false] at hc33
        refine wp_exit ?_
        refine then_x ?_
        refine then_x ?_
        refine inb_hit ?_
        refine then_n ?_
        refine wp_seq ?_
        rw [show L.take k = L from List.take_of_length_le (by omega)] at H32
        refine reg ?_
        refine plain (y_move rfl rfl) rfl rfl rfl H32 ?_
        clear H32; intro a62 H62
        refine plain (y_move rfl rfl) rfl rfl rfl H62 ?_
        clear H62; intro a63 H63
        refine plain (y_nilCheck rfl rfl) rfl rfl rfl H63 ?_
        clear H63; intro a64 H64
        refine plain (y_fieldB rfl z_field81_1 rfl (by first | (simp only [Nat.zero_add, Nat.add_zero, Nat.reduceAdd]; rfl) | rfl)) rfl rfl rfl H64 ?_
        clear H64; intro a65 H65
        refine st_store1N rfl z_size22 rfl rfl rfl (by repeat (first | exact Uh | apply Ut)) q_len_c2 q_set_c2_1 (by decide) rfl rfl H65 ?_
        clear H65; intro wx66 H66
        refine fin ?_
        refine then_n ?_
        refine wp_seq ?_
        refine wp_seq ?_
        refine reg ?_
        refine plain (y_move rfl rfl) rfl rfl rfl H66 ?_
        clear H66; intro a67 H67
        refine fin ?_
        refine then_n ?_
        refine cnd H67 rfl (fun hc68 => ?_) (fun hc68 => ?_) -- cond 3
        · skip
          try simp only [decide_eq_true_eq, decide_eq_false_iff_not, Bool.not_eq_true', Bool.not_eq_false', Bool.and_eq_true, Bool.not_eq_true, Bool.not_eq_false] at hc68
          have hok1 := hc68
          refine reg ?_
          refine plain (y_move rfl rfl) rfl rfl rfl H67 ?_
          clear H67; intro a69 H69
          refine plain (y_fieldB rfl z_field32_0 rfl (by first | (simp only [Nat.zero_add, Nat.add_zero, Nat.reduceAdd]; rfl) | rfl)) rfl rfl rfl H69 ?_
          clear H69; intro a70 H70
          refine plain (y_fieldB rfl z_field30_1 rfl (by first | (simp only [Nat.zero_add, Nat.add_zero, Nat.reduceAdd]; rfl) | rfl)) rfl rfl rfl H70 ?_
          clear H70; intro a71 H71
          refine plain (y_loadB rfl z_agg3 rfl (by repeat (first | exact Mh | apply Mt)) q_ix_c4b32c1_1) rfl rfl rfl H71 ?_
          clear H71; intro a72 H72
          refine plain (y_fieldB rfl z_field32_1 rfl (by first | (simp only [Nat.zero_add, Nat.add_zero, Nat.reduceAdd]; rfl) | rfl)) rfl rfl rfl H72 ?_
          clear H72; intro a73 H73
          refine plain (y_loadB rfl z_agg3 rfl (by repeat (first | exact Mh | apply Mt)) (q_ix_c4b32c1_36 (by assumption))) rfl rfl rfl H73 ?_
          clear H73; intro a74 H74
          refine st_callu rfl z_call67 rfl rfl rfl rfl H74 (rtake bx g hbg B hB (Auction.win (Auction.of L r) B r floor).1.bid.who (Auction.win (Auction.of L r) B r floor).1.price (H74.sep.all _ (by repeat (first | exact Mh | apply Mt))) (H74.sep.all _ (by repeat (first | exact Mh | apply Mt)))) (by repeat (first | exact Uh | apply Ut)) ?_
          clear H74; intro a75 wx75 H75
          refine fin ?_
          refine then_n ?_
          refine wp_seq ?_
          refine reg ?_
          refine plain (y_loadAB rfl z_agg32 z_size32 rfl (by repeat (first | exact Mh | apply Mt)) (q_ld_c4b32c1_0_37 (by assumption)) (q_len_c4b32c1 (by assumption))) rfl rfl rfl H75 ?_
          clear H75; intro a76 H76
          refine plain (y_move rfl rfl) rfl rfl rfl H76 ?_
          clear H76; intro a77 H77
          refine st_storeN rfl z_size32 rfl rfl (agg_cells _) (by repeat (first | exact Uh | apply Ut)) (q_one_c4b32c1 rfl rfl rfl rfl rfl) (q_len_c4b32c1 (by assumption)) (q_len_c4b32c1 (by assumption)) (q_spl_c4b32c1_0_c4b32c1 (by assumption) (by assumption)) (by decide) rfl rfl H77 ?_
          clear H77; intro wx78 H78
          refine plain (y_assign rfl rfl) rfl rfl rfl H78 ?_
          clear H78; intro a79 H79
          refine fin ?_
          refine then_n ?_
          refine wp_ret ?_
          -- return 1
          refine retct rfl H79 rfl z_agg32 z_size32 (by repeat (first | exact Mh | apply Mt)) (q_len_c4b32c1 (by assumption)) rfl ?_
          first | (have hz := hok1; rw [Auction.paid_yes hok1]; exact ⟨_, _, rfl, ⟨rfl, _, rfl⟩, (H79.only (is := [It.row 30 36 (.slice A1 (Auction.less L r).length c1) (Auction.less L r).length (Auction.bdc (Auction.less L r)), It.blk x 81 [i64 floor, (.slice A1 (Auction.less L r).length c1)], It.blk bx 90 [.slice (some ⟨g, 0, none⟩) 64 64], It.blk g 3 ((Bank.take B (Auction.win (Auction.of L r) B r floor).1.bid.who (Auction.win (Auction.of L r) B r floor).1.price).2.map i64)]) (.cons (by repeat (first | exact Ph | apply Pt)) (.cons (by repeat (first | exact Ph | apply Pt)) (.cons (by repeat (first | exact Ph | apply Pt)) (.cons (by repeat (first | exact Ph | apply Pt)) (.nil _)))))).sep⟩) | (have hz := hno; rw [Auction.paid_no (by rw [hno]; exact Bool.false_ne_true)]; exact ⟨_, _, rfl, ⟨rfl, _, rfl⟩, (H79.only (is := [It.row 30 36 (.slice A1 (Auction.less L r).length c1) (Auction.less L r).length (Auction.bdc (Auction.less L r)), It.blk x 81 [i64 floor, (.slice A1 (Auction.less L r).length c1)], It.blk bx 90 [.slice (some ⟨g, 0, none⟩) 64 64], It.blk g 3 (B.map i64)]) (.cons (by repeat (first | exact Ph | apply Pt)) (.cons (by repeat (first | exact Ph | apply Pt)) (.cons (by repeat (first | exact Ph | apply Pt)) (.cons (by repeat (first | exact Ph | apply Pt)) (.nil _)))))).sep⟩)
        · skip
          try simp only [decide_eq_true_eq, decide_eq_false_iff_not, Bool.not_eq_true', Bool.not_eq_false', Bool.and_eq_true, Bool.not_eq_true, Bool.not_eq_false] at hc68
          have hno := hc68
          refine wp_skip ?_
          refine then_n ?_
          refine wp_seq ?_
          refine reg ?_
          refine plain (y_loadAB rfl z_agg32 z_size32 rfl (by repeat (first | exact Mh | apply Mt)) (q_ld_c4b32c1_0_37 (by assumption)) (q_len_c4b32c1 (by assumption))) rfl rfl rfl H67 ?_
          clear H67; intro a80 H80
          refine plain (y_move rfl rfl) rfl rfl rfl H80 ?_
          clear H80; intro a81 H81
          refine st_storeN rfl z_size32 rfl rfl (agg_cells _) (by repeat (first | exact Uh | apply Ut)) (q_one_c4b32c1 rfl rfl rfl rfl rfl) (q_len_c4b32c1 (by assumption)) (q_len_c4b32c1 (by assumption)) (q_spl_c4b32c1_0_c4b32c1 (by assumption) (by assumption)) (by decide) rfl rfl H81 ?_
          clear H81; intro wx82 H82
          refine plain (y_assign rfl rfl) rfl rfl rfl H82 ?_
          clear H82; intro a83 H83
          refine fin ?_
          refine then_n ?_
          refine wp_ret ?_
          -- return 2
          refine retct rfl H83 rfl z_agg32 z_size32 (by repeat (first | exact Mh | apply Mt)) (q_len_c4b32c1 (by assumption)) rfl ?_
          first | (have hz := hok1; rw [Auction.paid_yes hok1]; exact ⟨_, _, rfl, ⟨rfl, _, rfl⟩, (H83.only (is := [It.row 30 36 (.slice A1 (Auction.less L r).length c1) (Auction.less L r).length (Auction.bdc (Auction.less L r)), It.blk x 81 [i64 floor, (.slice A1 (Auction.less L r).length c1)], It.blk bx 90 [.slice (some ⟨g, 0, none⟩) 64 64], It.blk g 3 ((Bank.take B (Auction.win (Auction.of L r) B r floor).1.bid.who (Auction.win (Auction.of L r) B r floor).1.price).2.map i64)]) (.cons (by repeat (first | exact Ph | apply Pt)) (.cons (by repeat (first | exact Ph | apply Pt)) (.cons (by repeat (first | exact Ph | apply Pt)) (.cons (by repeat (first | exact Ph | apply Pt)) (.nil _)))))).sep⟩) | (have hz := hno; rw [Auction.paid_no (by rw [hno]; exact Bool.false_ne_true)]; exact ⟨_, _, rfl, ⟨rfl, _, rfl⟩, (H83.only (is := [It.row 30 36 (.slice A1 (Auction.less L r).length c1) (Auction.less L r).length (Auction.bdc (Auction.less L r)), It.blk x 81 [i64 floor, (.slice A1 (Auction.less L r).length c1)], It.blk bx 90 [.slice (some ⟨g, 0, none⟩) 64 64], It.blk g 3 (B.map i64)]) (.cons (by repeat (first | exact Ph | apply Pt)) (.cons (by repeat (first | exact Ph | apply Pt)) (.cons (by repeat (first | exact Ph | apply Pt)) (.cons (by repeat (first | exact Ph | apply Pt)) (.nil _)))))).sep⟩)
    · skip
      refine st_alloc rfl z_zeroN32 rfl rfl rfl H15 ?_
      clear H15; intro b84 a84 wx84 H84
      refine hfinA H84.sep ?_
      refine hgo 12 rfl (by kernel_rfl) ?_
      refine st_callg rfl z_call14 rfl rfl rfl rfl H84 (rwin (Auction.of L r) B r floor ArS (some ⟨g, 0, none⟩) _ 64 crS 64 rfl hB.len.symm (by omega) (by rw [hB.len]; decide) hxs (Rd.ofSep (rd_row (by repeat (first | exact Mh | apply Mt))) H84.sep) (Rd.ofSep (rd_blkA (by repeat (first | exact Mh | apply Mt))) H84.sep)) ?_
      clear H84; intro a85 wx85 H85
      refine hfinA H85.sep ?_
      refine htake 13 rfl (by kernel_rfl) (y_move rfl rfl) rfl rfl rfl (fun _ h => (h.sub (by first | exact S0 | exact S1 | repeat (first | exact S1 | exact S0 | apply S2 | apply S3)))) H85 ?_
      clear H85; intro a86 H86
      refine htake 14 rfl (by kernel_rfl) (y_extract rfl rfl rfl) rfl rfl rfl (fun _ h => (h.sub (by first | exact S0 | exact S1 | repeat (first | exact S1 | exact S0 | apply S2 | apply S3)))) H86 ?_
      clear H86; intro a87 H87
      refine htake 15 rfl (by kernel_rfl) (y_extract rfl rfl rfl) rfl rfl rfl (fun _ h => (h.sub (by first | exact S0 | exact S1 | repeat (first | exact S1 | exact S0 | apply S2 | apply S3)))) H87 ?_
      clear H87; intro a88 H88
      refine hgo 17 rfl (by kernel_rfl) ?_
      refine st_storeN rfl z_size32 rfl rfl (agg_cells _) (by repeat (first | exact Uh | apply Ut)) (q_one_c4b32c1 rfl rfl rfl rfl rfl) (q_len_c4b32c1 (by assumption)) (q_len_c4b32c1 (by assumption)) (q_spl_c4b32c1_0_c4b32c1 (by assumption) (by assumption)) (by decide) rfl rfl H88 ?_
      clear H88; intro wx89 H89
      refine hfinA H89.sep ?_
      refine htake 18 rfl (by kernel_rfl) (y_assign rfl rfl) rfl rfl rfl (fun _ h => (h.sub (by first | exact S0 | exact S1 | repeat (first | exact S1 | exact S0 | apply S2 | apply S3)))) H89 ?_
      clear H89; intro a90 H90
      refine hdone (by kernel_rfl) ?_
      refine then_n ?_
      refine wp_seq ?_
      refine reg ?_
      refine plain (y_assign rfl rfl) rfl rfl rfl H90 ?_
      clear H90; intro a91 H91
      refine fin ?_
      refine then_n ?_
      refine wp_seq ?_
      refine wp_seq ?_
      refine reg ?_
      refine plain (y_assign rfl rfl) rfl rfl rfl H91 ?_
      clear H91; intro a92 H92
      refine fin ?_
      refine then_n ?_
      refine wp_block ?_
      replace H92 := ((H92.only (is := [It.blk b84 32 (Auction.Win.cells (Auction.win (Auction.of L r) B r floor).1), It.blk b1 32 (Auction.Win.cells Auction.Win.zero), It.row 30 36 (.slice A L.length cc) L.length (Auction.bdc L), It.blk x 81 [i64 floor, (.slice A L.length cc)], It.blk bx 90 [.slice (some ⟨g, 0, none⟩) 64 64], It.blk g 3 (B.map i64)]) (.cons (by repeat (first | exact Ph | apply Pt)) (.cons (by repeat (first | exact Ph | apply Pt)) (.cons (by repeat (first | exact Ph | apply Pt)) (.cons (by repeat (first | exact Ph | apply Pt)) (.cons (by repeat (first | exact Ph | apply Pt)) (.cons (by repeat (first | exact Ph | apply Pt)) (.nil _))))))))).nilRow 30 36
      refine loop (ι := Nat × Value) (fun z => [(0, .pointer (some ⟨x, 0, none⟩)), (1, .int .i64 r), (2, .pointer (some ⟨bx, 0, none⟩)), (6, .pointer (some ⟨b1, 0, none⟩)), (7, .bool false), (8, .pointer (some ⟨b84, 0, none⟩)), (9, .bool (Auction.win (Auction.of L r) B r floor).2), (10, z.2), (11, .int .i64 (z.1 : Int))]) (fun z => [It.row 30 36 z.2 (Auction.less (L.take z.1) r).length (Auction.bdc (Auction.less (L.take z.1) r)), It.blk b84 32 (Auction.Win.cells (Auction.win (Auction.of L r) B r floor).1), It.blk b1 32 (Auction.Win.cells Auction.Win.zero), It.row 30 36 (.slice A L.length cc) L.length (Auction.bdc L), It.blk x 81 [i64 floor, (.slice A L.length cc)], It.blk bx 90 [.slice (some ⟨g, 0, none⟩) 64 64], It.blk g 3 (B.map i64)]) (fun z => z.1 ≤ L.length) (fun z => L.length - z.1) ((0, (.slice none 0 0 : Value))) (Nat.zero_le _) (H92.weak ⟨rfl, rfl, rfl, rfl, rfl, rfl, rfl, rfl, rfl, trivial⟩ rfl) ?_
      clear H92; intro z a93 wx93 hok93 H93
      obtain ⟨k, v⟩ := z
      dsimp only at hok93 H93
      have hok := hok93
      obtain ⟨A1, c1, rfl, hR1, hm1⟩ := row_shape (v := v) H93.sep (by repeat (first | exact Mh | apply Mt))
      have hwl := Auction.less_len (L.take k) r
      rw [List.length_take] at hwl
      refine wp_seq ?_
      refine wp_seq ?_
      refine reg ?_
      refine plain (y_move rfl rfl) rfl rfl rfl H93 ?_
      clear H93; intro a94 H94
      refine plain (y_move rfl rfl) rfl rfl rfl H94 ?_
      clear H94; intro a95 H95
      refine plain (y_nilCheck rfl rfl) rfl rfl rfl H95 ?_
      clear H95; intro a96 H96
      refine plain (y_fieldB rfl z_field81_1 rfl (by first | (simp only [Nat.zero_add, Nat.add_zero, Nat.reduceAdd]; rfl) | rfl)) rfl rfl rfl H96 ?_
      clear H96; intro a97 H97
      refine plain (y_loadB rfl z_agg22 rfl (by repeat (first | exact Mh | apply Mt)) q_ix_c2_1) rfl rfl rfl H97 ?_
      clear H97; intro a98 H98
      refine plain (y_len rfl Tryd.underlying22 rfl) rfl rfl rfl H98 ?_
      clear H98; intro a99 H99
      refine plain (y_lss rfl rfl rfl) rfl rfl rfl H99 ?_
      clear H99; intro a100 H100
      refine fin ?_
      refine then_n ?_
      refine cnd H100 rfl (fun hc101 => ?_) (fun hc101 => ?_) -- cond 4
      · skip
        try simp only [decide_eq_true_eq, decide_eq_false_iff_not, Bool.not_eq_true', Bool.not_eq_false', Bool.and_eq_true, Bool.not_eq_true, Bool.not_eq_false] at hc101
        refine wp_skip ?_
        refine then_n ?_
        refine wp_seq ?_
        refine wp_block ?_
        refine wp_seq ?_
        have hkl : k < L.length := by omega
        have hwk := Auction.atD hL hkl
        have htg := hwk.tag
        refine reg ?_
        refine plain (y_move rfl rfl) rfl rfl rfl H100 ?_
        clear H100; intro a102 H102
        refine plain (y_nilCheck rfl rfl) rfl rfl rfl H102 ?_
        clear H102; intro a103 H103
        refine plain (y_fieldB rfl z_field81_1 rfl (by first | (simp only [Nat.zero_add, Nat.add_zero, Nat.reduceAdd]; rfl) | rfl)) rfl rfl rfl H103 ?_
        clear H103; intro a104 H104
        refine plain (y_loadB rfl z_agg22 rfl (by repeat (first | exact Mh | apply Mt)) q_ix_c2_1) rfl rfl rfl H104 ?_
        clear H104; intro a105 H105
        refine plain (y_move rfl rfl) rfl rfl rfl H105 ?_
        clear H105; intro a106 H106
        refine plain (y_ixR rfl Tryd.underlying22 z_size30 rfl rfl (by omega) (by omega) (rd_row (by repeat (first | exact Mh | apply Mt))) (by rw [Auction.bdc_len hL]; omega)) rfl rfl rfl H106 ?_
        clear H106; intro a107 H107
        refine plain (y_fieldS rfl z_field30_0 rfl (rd_row (by repeat (first | exact Mh | apply Mt))) (by rw [Auction.bdc_len hL]; omega)) rfl rfl rfl H107 ?_
        clear H107; intro a108 H108
        refine plain (y_loadR rfl z_agg3 rfl (rd_row (by repeat (first | exact Mh | apply Mt))) (by simp only [Int.toNat_natCast, Nat.zero_add, Nat.add_zero]; exact Auction.bdc_round hL hkl)) rfl rfl rfl H108 ?_
        clear H108; intro a109 H109
        refine plain (y_move rfl rfl) rfl rfl rfl H109 ?_
        clear H109; intro a110 H110
        refine plain (y_neq rfl rfl rfl) rfl rfl rfl H110 ?_
        clear H110; intro a111 H111
        refine fin ?_
        refine then_n ?_
        refine cnd H111 rfl (fun hc112 => ?_) (fun hc112 => ?_) -- cond 5
        · skip
          try simp only [decide_eq_true_eq, decide_eq_false_iff_not, Bool.not_eq_true', Bool.not_eq_false', Bool.and_eq_true, Bool.not_eq_true, Bool.not_eq_false] at hc112
          have isYes := True.intro
          refine reg ?_
          refine plain (y_move rfl rfl) rfl rfl rfl H111 ?_
          clear H111; intro a113 H113
          refine plain (y_move rfl rfl) rfl rfl rfl H113 ?_
          clear H113; intro a114 H114
          refine plain (y_nilCheck rfl rfl) rfl rfl rfl H114 ?_
          clear H114; intro a115 H115
          refine plain (y_fieldB rfl z_field81_1 rfl (by first | (simp only [Nat.zero_add, Nat.add_zero, Nat.reduceAdd]; rfl) | rfl)) rfl rfl rfl H115 ?_
          clear H115; intro a116 H116
          refine plain (y_loadB rfl z_agg22 rfl (by repeat (first | exact Mh | apply Mt)) q_ix_c2_1) rfl rfl rfl H116 ?_
          clear H116; intro a117 H117
          refine plain (y_move rfl rfl) rfl rfl rfl H117 ?_
          clear H117; intro a118 H118
          refine plain (y_ixR rfl Tryd.underlying22 z_size30 rfl rfl (by omega) (by omega) (rd_row (by repeat (first | exact Mh | apply Mt))) (by rw [Auction.bdc_len hL]; omega)) rfl rfl rfl H118 ?_
          clear H118; intro a119 H119
          refine plain (y_loadAS rfl z_agg30 z_size30 rfl (rd_row (by repeat (first | exact Mh | apply Mt))) (show _ = Note.Bid.cells (L.getD k Note.Bid.zero) from Auction.bdc_take hL k (by omega)) (Auction.bid_len htg) (by decide)) rfl rfl rfl H119 ?_
          clear H119; intro a120 H120
          refine st_buildSlice rfl Tryd.underlying22 z_size30 z_zero30 rfl rfl rfl (lay_agg (agg_cells _) (Auction.bid_len htg) (by simp)) rfl rfl rfl H120 ?_
          clear H120; intro b121 a121 wx121 H121
          refine st_append rfl z_slice22 z_notint22 rfl rfl (fun _ => (by repeat (first | exact Uh | apply Ut))) (fun w hs => Src.slice ((rd_blkA (by repeat (first | exact Mh | apply Mt))) w hs) (Auction.bid_len htg) (Auction.bid_cell _)) (by unfold maxLen at *; first | omega | (simp only [List.length_cons, List.length_nil, List.length_append, List.length_map]; omega)) (by omega) rfl rfl rfl H121 ?_
          clear H121; intro v122 a122 wx122 hnil122 H122
          obtain ⟨ArY, crY, hvrY, hRrY, hmrY⟩ := row_shape (v := v122) H122.sep (by repeat (first | exact Mh | apply Mt))
          subst hvrY
          refine plain (y_assign rfl rfl) rfl rfl rfl H122 ?_
          clear H122; intro a123 H123
          refine fin ?_
          refine inb_n ?_
          refine then_n ?_
          refine reg ?_
          refine plain (y_move rfl rfl) rfl rfl rfl H123 ?_
          clear H123; intro a124 H124
          refine plain (y_add rfl rfl rfl (by first | exact w64 (by omega) (by omega) | rfl)) rfl rfl rfl H124 ?_
          clear H124; intro a125 H125
          refine plain (y_assign rfl rfl) rfl rfl rfl H125 ?_
          clear H125; intro a126 H126
          refine fin ?_
          refine then_n ?_
          first | (have hz := isYes; refine ⟨(k + 1, .slice ArY ((Auction.less (L.take k) r).length + 1) crY), by dsimp only; omega, by dsimp only; omega, (H126.drop (List.Sublist.cons _ (List.Sublist.refl _))).weak ⟨rfl, rfl, rfl, rfl, rfl, rfl, rfl, rfl, fi rfl (by dsimp only; omega), trivial⟩ (by dsimp only; rw [Auction.less_yes hkl (by assumption), Auction.bdc_append, Auction.bdc_one, List.length_append]; rfl)⟩) | (refine ⟨(k + 1, .slice A1 (Auction.less (L.take k) r).length c1), by dsimp only; omega, by dsimp only; omega, H126.weak ⟨rfl, rfl, rfl, rfl, rfl, rfl, rfl, rfl, fi rfl (by dsimp only; omega), trivial⟩ (by dsimp only; rw [Auction.less_no hkl (by first | assumption | omega)])⟩)
        · skip
          try simp only [decide_eq_true_eq, decide_eq_false_iff_not, Bool.not_eq_true', Bool.not_eq_false', Bool.and_eq_true, Bool.not_eq_true, Bool.not_eq_false] at hc112
          refine wp_skip ?_
          refine inb_n ?_
          refine then_n ?_
          refine reg ?_
          refine plain (y_move rfl rfl) rfl rfl rfl H111 ?_
          clear H111; intro a127 H127
          refine plain (y_add rfl rfl rfl (by first | exact w64 (by omega) (by omega) | rfl)) rfl rfl rfl H127 ?_
          clear H127; intro a128 H128
          refine plain (y_assign rfl rfl) rfl rfl rfl H128 ?_
          clear H128; intro a129 H129
          refine fin ?_
          refine then_n ?_
          first | (have hz := isYes; refine ⟨(k + 1, .slice ArY ((Auction.less (L.take k) r).length + 1) crY), by dsimp only; omega, by dsimp only; omega, (H129.drop (List.Sublist.cons _ (List.Sublist.refl _))).weak ⟨rfl, rfl, rfl, rfl, rfl, rfl, rfl, rfl, fi rfl (by dsimp only; omega), trivial⟩ (by dsimp only; rw [Auction.less_yes hkl (by assumption), Auction.bdc_append, Auction.bdc_one, List.length_append]; rfl)⟩) | (refine ⟨(k + 1, .slice A1 (Auction.less (L.take k) r).length c1), by dsimp only; omega, by dsimp only; omega, H129.weak ⟨rfl, rfl, rfl, rfl, rfl, rfl, rfl, rfl, fi rfl (by dsimp only; omega), trivial⟩ (by dsimp only; rw [Auction.less_no hkl (by first | assumption | omega)])⟩)
      · skip
        try simp only [decide_eq_true_eq, decide_eq_false_iff_not, Bool.not_eq_true', Bool.not_eq_false', Bool.and_eq_true, Bool.not_eq_true, Bool.not_eq_false] at hc101
        refine wp_exit ?_
        refine then_x ?_
        refine then_x ?_
        refine inb_hit ?_
        refine then_n ?_
        refine wp_seq ?_
        rw [show L.take k = L from List.take_of_length_le (by omega)] at H100
        refine reg ?_
        refine plain (y_move rfl rfl) rfl rfl rfl H100 ?_
        clear H100; intro a130 H130
        refine plain (y_move rfl rfl) rfl rfl rfl H130 ?_
        clear H130; intro a131 H131
        refine plain (y_nilCheck rfl rfl) rfl rfl rfl H131 ?_
        clear H131; intro a132 H132
        refine plain (y_fieldB rfl z_field81_1 rfl (by first | (simp only [Nat.zero_add, Nat.add_zero, Nat.reduceAdd]; rfl) | rfl)) rfl rfl rfl H132 ?_
        clear H132; intro a133 H133
        refine st_store1N rfl z_size22 rfl rfl rfl (by repeat (first | exact Uh | apply Ut)) q_len_c2 q_set_c2_1 (by decide) rfl rfl H133 ?_
        clear H133; intro wx134 H134
        refine fin ?_
        refine then_n ?_
        refine wp_seq ?_
        refine wp_seq ?_
        refine reg ?_
        refine plain (y_move rfl rfl) rfl rfl rfl H134 ?_
        clear H134; intro a135 H135
        refine fin ?_
        refine then_n ?_
        refine cnd H135 rfl (fun hc136 => ?_) (fun hc136 => ?_) -- cond 6
        · skip
          try simp only [decide_eq_true_eq, decide_eq_false_iff_not, Bool.not_eq_true', Bool.not_eq_false', Bool.and_eq_true, Bool.not_eq_true, Bool.not_eq_false] at hc136
          have hok1 := hc136
          refine reg ?_
          refine plain (y_move rfl rfl) rfl rfl rfl H135 ?_
          clear H135; intro a137 H137
          refine plain (y_fieldB rfl z_field32_0 rfl (by first | (simp only [Nat.zero_add, Nat.add_zero, Nat.reduceAdd]; rfl) | rfl)) rfl rfl rfl H137 ?_
          clear H137; intro a138 H138
          refine plain (y_fieldB rfl z_field30_1 rfl (by first | (simp only [Nat.zero_add, Nat.add_zero, Nat.reduceAdd]; rfl) | rfl)) rfl rfl rfl H138 ?_
          clear H138; intro a139 H139
          refine plain (y_loadB rfl z_agg3 rfl (by repeat (first | exact Mh | apply Mt)) q_ix_c4b32c1_1) rfl rfl rfl H139 ?_
          clear H139; intro a140 H140
          refine plain (y_fieldB rfl z_field32_1 rfl (by first | (simp only [Nat.zero_add, Nat.add_zero, Nat.reduceAdd]; rfl) | rfl)) rfl rfl rfl H140 ?_
          clear H140; intro a141 H141
          refine plain (y_loadB rfl z_agg3 rfl (by repeat (first | exact Mh | apply Mt)) (q_ix_c4b32c1_36 (by assumption))) rfl rfl rfl H141 ?_
          clear H141; intro a142 H142
          refine st_callu rfl z_call67 rfl rfl rfl rfl H142 (rtake bx g hbg B hB (Auction.win (Auction.of L r) B r floor).1.bid.who (Auction.win (Auction.of L r) B r floor).1.price (H142.sep.all _ (by repeat (first | exact Mh | apply Mt))) (H142.sep.all _ (by repeat (first | exact Mh | apply Mt)))) (by repeat (first | exact Uh | apply Ut)) ?_
          clear H142; intro a143 wx143 H143
          refine fin ?_
          refine then_n ?_
          refine wp_seq ?_
          refine reg ?_
          refine plain (y_loadAB rfl z_agg32 z_size32 rfl (by repeat (first | exact Mh | apply Mt)) (q_ld_c4b32c1_0_37 (by assumption)) (q_len_c4b32c1 (by assumption))) rfl rfl rfl H143 ?_
          clear H143; intro a144 H144
          refine plain (y_move rfl rfl) rfl rfl rfl H144 ?_
          clear H144; intro a145 H145
          refine st_storeN rfl z_size32 rfl rfl (agg_cells _) (by repeat (first | exact Uh | apply Ut)) (q_one_c4b32c1 rfl rfl rfl rfl rfl) (q_len_c4b32c1 (by assumption)) (q_len_c4b32c1 (by assumption)) (q_spl_c4b32c1_0_c4b32c1 (by assumption) (by assumption)) (by decide) rfl rfl H145 ?_
          clear H145; intro wx146 H146
          refine plain (y_assign rfl rfl) rfl rfl rfl H146 ?_
          clear H146; intro a147 H147
          refine fin ?_
          refine then_n ?_
          refine wp_ret ?_
          -- return 3
          refine retct rfl H147 rfl z_agg32 z_size32 (by repeat (first | exact Mh | apply Mt)) (q_len_c4b32c1 (by assumption)) rfl ?_
          first | (have hz := hok1; rw [Auction.paid_yes hok1]; exact ⟨_, _, rfl, ⟨rfl, _, rfl⟩, (H147.only (is := [It.row 30 36 (.slice A1 (Auction.less L r).length c1) (Auction.less L r).length (Auction.bdc (Auction.less L r)), It.blk x 81 [i64 floor, (.slice A1 (Auction.less L r).length c1)], It.blk bx 90 [.slice (some ⟨g, 0, none⟩) 64 64], It.blk g 3 ((Bank.take B (Auction.win (Auction.of L r) B r floor).1.bid.who (Auction.win (Auction.of L r) B r floor).1.price).2.map i64)]) (.cons (by repeat (first | exact Ph | apply Pt)) (.cons (by repeat (first | exact Ph | apply Pt)) (.cons (by repeat (first | exact Ph | apply Pt)) (.cons (by repeat (first | exact Ph | apply Pt)) (.nil _)))))).sep⟩) | (have hz := hno; rw [Auction.paid_no (by rw [hno]; exact Bool.false_ne_true)]; exact ⟨_, _, rfl, ⟨rfl, _, rfl⟩, (H147.only (is := [It.row 30 36 (.slice A1 (Auction.less L r).length c1) (Auction.less L r).length (Auction.bdc (Auction.less L r)), It.blk x 81 [i64 floor, (.slice A1 (Auction.less L r).length c1)], It.blk bx 90 [.slice (some ⟨g, 0, none⟩) 64 64], It.blk g 3 (B.map i64)]) (.cons (by repeat (first | exact Ph | apply Pt)) (.cons (by repeat (first | exact Ph | apply Pt)) (.cons (by repeat (first | exact Ph | apply Pt)) (.cons (by repeat (first | exact Ph | apply Pt)) (.nil _)))))).sep⟩)
        · skip
          try simp only [decide_eq_true_eq, decide_eq_false_iff_not, Bool.not_eq_true', Bool.not_eq_false', Bool.and_eq_true, Bool.not_eq_true, Bool.not_eq_false] at hc136
          have hno := hc136
          refine wp_skip ?_
          refine then_n ?_
          refine wp_seq ?_
          refine reg ?_
          refine plain (y_loadAB rfl z_agg32 z_size32 rfl (by repeat (first | exact Mh | apply Mt)) (q_ld_c4b32c1_0_37 (by assumption)) (q_len_c4b32c1 (by assumption))) rfl rfl rfl H135 ?_
          clear H135; intro a148 H148
          refine plain (y_move rfl rfl) rfl rfl rfl H148 ?_
          clear H148; intro a149 H149
          refine st_storeN rfl z_size32 rfl rfl (agg_cells _) (by repeat (first | exact Uh | apply Ut)) (q_one_c4b32c1 rfl rfl rfl rfl rfl) (q_len_c4b32c1 (by assumption)) (q_len_c4b32c1 (by assumption)) (q_spl_c4b32c1_0_c4b32c1 (by assumption) (by assumption)) (by decide) rfl rfl H149 ?_
          clear H149; intro wx150 H150
          refine plain (y_assign rfl rfl) rfl rfl rfl H150 ?_
          clear H150; intro a151 H151
          refine fin ?_
          refine then_n ?_
          refine wp_ret ?_
          -- return 4
          refine retct rfl H151 rfl z_agg32 z_size32 (by repeat (first | exact Mh | apply Mt)) (q_len_c4b32c1 (by assumption)) rfl ?_
          first | (have hz := hok1; rw [Auction.paid_yes hok1]; exact ⟨_, _, rfl, ⟨rfl, _, rfl⟩, (H151.only (is := [It.row 30 36 (.slice A1 (Auction.less L r).length c1) (Auction.less L r).length (Auction.bdc (Auction.less L r)), It.blk x 81 [i64 floor, (.slice A1 (Auction.less L r).length c1)], It.blk bx 90 [.slice (some ⟨g, 0, none⟩) 64 64], It.blk g 3 ((Bank.take B (Auction.win (Auction.of L r) B r floor).1.bid.who (Auction.win (Auction.of L r) B r floor).1.price).2.map i64)]) (.cons (by repeat (first | exact Ph | apply Pt)) (.cons (by repeat (first | exact Ph | apply Pt)) (.cons (by repeat (first | exact Ph | apply Pt)) (.cons (by repeat (first | exact Ph | apply Pt)) (.nil _)))))).sep⟩) | (have hz := hno; rw [Auction.paid_no (by rw [hno]; exact Bool.false_ne_true)]; exact ⟨_, _, rfl, ⟨rfl, _, rfl⟩, (H151.only (is := [It.row 30 36 (.slice A1 (Auction.less L r).length c1) (Auction.less L r).length (Auction.bdc (Auction.less L r)), It.blk x 81 [i64 floor, (.slice A1 (Auction.less L r).length c1)], It.blk bx 90 [.slice (some ⟨g, 0, none⟩) 64 64], It.blk g 3 (B.map i64)]) (.cons (by repeat (first | exact Ph | apply Pt)) (.cons (by repeat (first | exact Ph | apply Pt)) (.cons (by repeat (first | exact Ph | apply Pt)) (.cons (by repeat (first | exact Ph | apply Pt)) (.nil _)))))).sep⟩)
  · skip
    refine st_alloc rfl z_zeroN32 rfl rfl rfl H14 ?_
    clear H14; intro b152 a152 wx152 H152
    refine hfinA H152.sep ?_
    refine hgo 2 rfl (by kernel_rfl) ?_
    refine st_call rfl z_call42 rfl rfl rfl rfl H152 (xbids floor L hL hll x (.slice A L.length cc) r (H152.sep.all _ (by repeat (first | exact Mh | apply Mt))) (H152.sep.all _ (by repeat (first | exact Mh | apply Mt)))) ?_
    clear H152; intro v153 l153 a153 wx153 hf153 H153
    obtain rfl := hf153
    simp only [List.cons_append, List.nil_append] at H153
    obtain ⟨ArS, crS, hvrS, hRrS, hmrS⟩ := row_shape (v := v153) H153.sep (by repeat (first | exact Mh | apply Mt))
    subst hvrS
    refine hfinA H153.sep ?_
    refine hgo 12 rfl (by kernel_rfl) ?_
    refine st_callg rfl z_call14 rfl rfl rfl rfl H153 (rwin (Auction.of L r) B r floor ArS (some ⟨g, 0, none⟩) _ 64 crS 64 rfl hB.len.symm (by omega) (by rw [hB.len]; decide) hxs (Rd.ofSep (rd_row (by repeat (first | exact Mh | apply Mt))) H153.sep) (Rd.ofSep (rd_blkA (by repeat (first | exact Mh | apply Mt))) H153.sep)) ?_
    clear H153; intro a154 wx154 H154
    refine hfinA H154.sep ?_
    refine htake 13 rfl (by kernel_rfl) (y_move rfl rfl) rfl rfl rfl (fun _ h => (h.sub (by first | exact S0 | exact S1 | repeat (first | exact S1 | exact S0 | apply S2 | apply S3)))) H154 ?_
    clear H154; intro a155 H155
    refine htake 14 rfl (by kernel_rfl) (y_extract rfl rfl rfl) rfl rfl rfl (fun _ h => (h.sub (by first | exact S0 | exact S1 | repeat (first | exact S1 | exact S0 | apply S2 | apply S3)))) H155 ?_
    clear H155; intro a156 H156
    refine htake 15 rfl (by kernel_rfl) (y_extract rfl rfl rfl) rfl rfl rfl (fun _ h => (h.sub (by first | exact S0 | exact S1 | repeat (first | exact S1 | exact S0 | apply S2 | apply S3)))) H156 ?_
    clear H156; intro a157 H157
    refine hgo 17 rfl (by kernel_rfl) ?_
    refine st_storeN rfl z_size32 rfl rfl (agg_cells _) (by repeat (first | exact Uh | apply Ut)) (q_one_c4b32c1 rfl rfl rfl rfl rfl) (q_len_c4b32c1 (by assumption)) (q_len_c4b32c1 (by assumption)) (q_spl_c4b32c1_0_c4b32c1 (by assumption) (by assumption)) (by decide) rfl rfl H157 ?_
    clear H157; intro wx158 H158
    refine hfinA H158.sep ?_
    refine htake 18 rfl (by kernel_rfl) (y_assign rfl rfl) rfl rfl rfl (fun _ h => (h.sub (by first | exact S0 | exact S1 | repeat (first | exact S1 | exact S0 | apply S2 | apply S3)))) H158 ?_
    clear H158; intro a159 H159
    refine hdone (by kernel_rfl) ?_
    refine then_n ?_
    refine wp_seq ?_
    refine reg ?_
    refine plain (y_assign rfl rfl) rfl rfl rfl H159 ?_
    clear H159; intro a160 H160
    refine fin ?_
    refine then_n ?_
    refine wp_seq ?_
    refine wp_seq ?_
    refine reg ?_
    refine plain (y_assign rfl rfl) rfl rfl rfl H160 ?_
    clear H160; intro a161 H161
    refine fin ?_
    refine then_n ?_
    refine wp_block ?_
    replace H161 := ((H161.only (is := [It.blk b152 32 (Auction.Win.cells (Auction.win (Auction.of L r) B r floor).1), It.blk b1 32 (Auction.Win.cells Auction.Win.zero), It.row 30 36 (.slice A L.length cc) L.length (Auction.bdc L), It.blk x 81 [i64 floor, (.slice A L.length cc)], It.blk bx 90 [.slice (some ⟨g, 0, none⟩) 64 64], It.blk g 3 (B.map i64)]) (.cons (by repeat (first | exact Ph | apply Pt)) (.cons (by repeat (first | exact Ph | apply Pt)) (.cons (by repeat (first | exact Ph | apply Pt)) (.cons (by repeat (first | exact Ph | apply Pt)) (.cons (by repeat (first | exact Ph | apply Pt)) (.cons (by repeat (first | exact Ph | apply Pt)) (.nil _))))))))).nilRow 30 36
    refine loop (ι := Nat × Value) (fun z => [(0, .pointer (some ⟨x, 0, none⟩)), (1, .int .i64 r), (2, .pointer (some ⟨bx, 0, none⟩)), (6, .pointer (some ⟨b1, 0, none⟩)), (7, .bool false), (8, .pointer (some ⟨b152, 0, none⟩)), (9, .bool (Auction.win (Auction.of L r) B r floor).2), (10, z.2), (11, .int .i64 (z.1 : Int))]) (fun z => [It.row 30 36 z.2 (Auction.less (L.take z.1) r).length (Auction.bdc (Auction.less (L.take z.1) r)), It.blk b152 32 (Auction.Win.cells (Auction.win (Auction.of L r) B r floor).1), It.blk b1 32 (Auction.Win.cells Auction.Win.zero), It.row 30 36 (.slice A L.length cc) L.length (Auction.bdc L), It.blk x 81 [i64 floor, (.slice A L.length cc)], It.blk bx 90 [.slice (some ⟨g, 0, none⟩) 64 64], It.blk g 3 (B.map i64)]) (fun z => z.1 ≤ L.length) (fun z => L.length - z.1) ((0, (.slice none 0 0 : Value))) (Nat.zero_le _) (H161.weak ⟨rfl, rfl, rfl, rfl, rfl, rfl, rfl, rfl, rfl, trivial⟩ rfl) ?_
    clear H161; intro z a162 wx162 hok162 H162
    obtain ⟨k, v⟩ := z
    dsimp only at hok162 H162
    have hok := hok162
    obtain ⟨A1, c1, rfl, hR1, hm1⟩ := row_shape (v := v) H162.sep (by repeat (first | exact Mh | apply Mt))
    have hwl := Auction.less_len (L.take k) r
    rw [List.length_take] at hwl
    refine wp_seq ?_
    refine wp_seq ?_
    refine reg ?_
    refine plain (y_move rfl rfl) rfl rfl rfl H162 ?_
    clear H162; intro a163 H163
    refine plain (y_move rfl rfl) rfl rfl rfl H163 ?_
    clear H163; intro a164 H164
    refine plain (y_nilCheck rfl rfl) rfl rfl rfl H164 ?_
    clear H164; intro a165 H165
    refine plain (y_fieldB rfl z_field81_1 rfl (by first | (simp only [Nat.zero_add, Nat.add_zero, Nat.reduceAdd]; rfl) | rfl)) rfl rfl rfl H165 ?_
    clear H165; intro a166 H166
    refine plain (y_loadB rfl z_agg22 rfl (by repeat (first | exact Mh | apply Mt)) q_ix_c2_1) rfl rfl rfl H166 ?_
    clear H166; intro a167 H167
    refine plain (y_len rfl Tryd.underlying22 rfl) rfl rfl rfl H167 ?_
    clear H167; intro a168 H168
    refine plain (y_lss rfl rfl rfl) rfl rfl rfl H168 ?_
    clear H168; intro a169 H169
    refine fin ?_
    refine then_n ?_
    refine cnd H169 rfl (fun hc170 => ?_) (fun hc170 => ?_) -- cond 7
    · skip
      try simp only [decide_eq_true_eq, decide_eq_false_iff_not, Bool.not_eq_true', Bool.not_eq_false', Bool.and_eq_true, Bool.not_eq_true, Bool.not_eq_false] at hc170
      refine wp_skip ?_
      refine then_n ?_
      refine wp_seq ?_
      refine wp_block ?_
      refine wp_seq ?_
      have hkl : k < L.length := by omega
      have hwk := Auction.atD hL hkl
      have htg := hwk.tag
      refine reg ?_
      refine plain (y_move rfl rfl) rfl rfl rfl H169 ?_
      clear H169; intro a171 H171
      refine plain (y_nilCheck rfl rfl) rfl rfl rfl H171 ?_
      clear H171; intro a172 H172
      refine plain (y_fieldB rfl z_field81_1 rfl (by first | (simp only [Nat.zero_add, Nat.add_zero, Nat.reduceAdd]; rfl) | rfl)) rfl rfl rfl H172 ?_
      clear H172; intro a173 H173
      refine plain (y_loadB rfl z_agg22 rfl (by repeat (first | exact Mh | apply Mt)) q_ix_c2_1) rfl rfl rfl H173 ?_
      clear H173; intro a174 H174
      refine plain (y_move rfl rfl) rfl rfl rfl H174 ?_
      clear H174; intro a175 H175
      refine plain (y_ixR rfl Tryd.underlying22 z_size30 rfl rfl (by omega) (by omega) (rd_row (by repeat (first | exact Mh | apply Mt))) (by rw [Auction.bdc_len hL]; omega)) rfl rfl rfl H175 ?_
      clear H175; intro a176 H176
      refine plain (y_fieldS rfl z_field30_0 rfl (rd_row (by repeat (first | exact Mh | apply Mt))) (by rw [Auction.bdc_len hL]; omega)) rfl rfl rfl H176 ?_
      clear H176; intro a177 H177
      refine plain (y_loadR rfl z_agg3 rfl (rd_row (by repeat (first | exact Mh | apply Mt))) (by simp only [Int.toNat_natCast, Nat.zero_add, Nat.add_zero]; exact Auction.bdc_round hL hkl)) rfl rfl rfl H177 ?_
      clear H177; intro a178 H178
      refine plain (y_move rfl rfl) rfl rfl rfl H178 ?_
      clear H178; intro a179 H179
      refine plain (y_neq rfl rfl rfl) rfl rfl rfl H179 ?_
      clear H179; intro a180 H180
      refine fin ?_
      refine then_n ?_
      refine cnd H180 rfl (fun hc181 => ?_) (fun hc181 => ?_) -- cond 8
      · skip
        try simp only [decide_eq_true_eq, decide_eq_false_iff_not, Bool.not_eq_true', Bool.not_eq_false', Bool.and_eq_true, Bool.not_eq_true, Bool.not_eq_false] at hc181
        have isYes := True.intro
        refine reg ?_
        refine plain (y_move rfl rfl) rfl rfl rfl H180 ?_
        clear H180; intro a182 H182
        refine plain (y_move rfl rfl) rfl rfl rfl H182 ?_
        clear H182; intro a183 H183
        refine plain (y_nilCheck rfl rfl) rfl rfl rfl H183 ?_
        clear H183; intro a184 H184
        refine plain (y_fieldB rfl z_field81_1 rfl (by first | (simp only [Nat.zero_add, Nat.add_zero, Nat.reduceAdd]; rfl) | rfl)) rfl rfl rfl H184 ?_
        clear H184; intro a185 H185
        refine plain (y_loadB rfl z_agg22 rfl (by repeat (first | exact Mh | apply Mt)) q_ix_c2_1) rfl rfl rfl H185 ?_
        clear H185; intro a186 H186
        refine plain (y_move rfl rfl) rfl rfl rfl H186 ?_
        clear H186; intro a187 H187
        refine plain (y_ixR rfl Tryd.underlying22 z_size30 rfl rfl (by omega) (by omega) (rd_row (by repeat (first | exact Mh | apply Mt))) (by rw [Auction.bdc_len hL]; omega)) rfl rfl rfl H187 ?_
        clear H187; intro a188 H188
        refine plain (y_loadAS rfl z_agg30 z_size30 rfl (rd_row (by repeat (first | exact Mh | apply Mt))) (show _ = Note.Bid.cells (L.getD k Note.Bid.zero) from Auction.bdc_take hL k (by omega)) (Auction.bid_len htg) (by decide)) rfl rfl rfl H188 ?_
        clear H188; intro a189 H189
        refine st_buildSlice rfl Tryd.underlying22 z_size30 z_zero30 rfl rfl rfl (lay_agg (agg_cells _) (Auction.bid_len htg) (by simp)) rfl rfl rfl H189 ?_
        clear H189; intro b190 a190 wx190 H190
        refine st_append rfl z_slice22 z_notint22 rfl rfl (fun _ => (by repeat (first | exact Uh | apply Ut))) (fun w hs => Src.slice ((rd_blkA (by repeat (first | exact Mh | apply Mt))) w hs) (Auction.bid_len htg) (Auction.bid_cell _)) (by unfold maxLen at *; first | omega | (simp only [List.length_cons, List.length_nil, List.length_append, List.length_map]; omega)) (by omega) rfl rfl rfl H190 ?_
        clear H190; intro v191 a191 wx191 hnil191 H191
        obtain ⟨ArY, crY, hvrY, hRrY, hmrY⟩ := row_shape (v := v191) H191.sep (by repeat (first | exact Mh | apply Mt))
        subst hvrY
        refine plain (y_assign rfl rfl) rfl rfl rfl H191 ?_
        clear H191; intro a192 H192
        refine fin ?_
        refine inb_n ?_
        refine then_n ?_
        refine reg ?_
        refine plain (y_move rfl rfl) rfl rfl rfl H192 ?_
        clear H192; intro a193 H193
        refine plain (y_add rfl rfl rfl (by first | exact w64 (by omega) (by omega) | rfl)) rfl rfl rfl H193 ?_
        clear H193; intro a194 H194
        refine plain (y_assign rfl rfl) rfl rfl rfl H194 ?_
        clear H194; intro a195 H195
        refine fin ?_
        refine then_n ?_
        first | (have hz := isYes; refine ⟨(k + 1, .slice ArY ((Auction.less (L.take k) r).length + 1) crY), by dsimp only; omega, by dsimp only; omega, (H195.drop (List.Sublist.cons _ (List.Sublist.refl _))).weak ⟨rfl, rfl, rfl, rfl, rfl, rfl, rfl, rfl, fi rfl (by dsimp only; omega), trivial⟩ (by dsimp only; rw [Auction.less_yes hkl (by assumption), Auction.bdc_append, Auction.bdc_one, List.length_append]; rfl)⟩) | (refine ⟨(k + 1, .slice A1 (Auction.less (L.take k) r).length c1), by dsimp only; omega, by dsimp only; omega, H195.weak ⟨rfl, rfl, rfl, rfl, rfl, rfl, rfl, rfl, fi rfl (by dsimp only; omega), trivial⟩ (by dsimp only; rw [Auction.less_no hkl (by first | assumption | omega)])⟩)
      · skip
        try simp only [decide_eq_true_eq, decide_eq_false_iff_not, Bool.not_eq_true', Bool.not_eq_false', Bool.and_eq_true, Bool.not_eq_true, Bool.not_eq_false] at hc181
        refine wp_skip ?_
        refine inb_n ?_
        refine then_n ?_
        refine reg ?_
        refine plain (y_move rfl rfl) rfl rfl rfl H180 ?_
        clear H180; intro a196 H196
        refine plain (y_add rfl rfl rfl (by first | exact w64 (by omega) (by omega) | rfl)) rfl rfl rfl H196 ?_
        clear H196; intro a197 H197
        refine plain (y_assign rfl rfl) rfl rfl rfl H197 ?_
        clear H197; intro a198 H198
        refine fin ?_
        refine then_n ?_
        first | (have hz := isYes; refine ⟨(k + 1, .slice ArY ((Auction.less (L.take k) r).length + 1) crY), by dsimp only; omega, by dsimp only; omega, (H198.drop (List.Sublist.cons _ (List.Sublist.refl _))).weak ⟨rfl, rfl, rfl, rfl, rfl, rfl, rfl, rfl, fi rfl (by dsimp only; omega), trivial⟩ (by dsimp only; rw [Auction.less_yes hkl (by assumption), Auction.bdc_append, Auction.bdc_one, List.length_append]; rfl)⟩) | (refine ⟨(k + 1, .slice A1 (Auction.less (L.take k) r).length c1), by dsimp only; omega, by dsimp only; omega, H198.weak ⟨rfl, rfl, rfl, rfl, rfl, rfl, rfl, rfl, fi rfl (by dsimp only; omega), trivial⟩ (by dsimp only; rw [Auction.less_no hkl (by first | assumption | omega)])⟩)
    · skip
      try simp only [decide_eq_true_eq, decide_eq_false_iff_not, Bool.not_eq_true', Bool.not_eq_false', Bool.and_eq_true, Bool.not_eq_true, Bool.not_eq_false] at hc170
      refine wp_exit ?_
      refine then_x ?_
      refine then_x ?_
      refine inb_hit ?_
      refine then_n ?_
      refine wp_seq ?_
      rw [show L.take k = L from List.take_of_length_le (by omega)] at H169
      refine reg ?_
      refine plain (y_move rfl rfl) rfl rfl rfl H169 ?_
      clear H169; intro a199 H199
      refine plain (y_move rfl rfl) rfl rfl rfl H199 ?_
      clear H199; intro a200 H200
      refine plain (y_nilCheck rfl rfl) rfl rfl rfl H200 ?_
      clear H200; intro a201 H201
      refine plain (y_fieldB rfl z_field81_1 rfl (by first | (simp only [Nat.zero_add, Nat.add_zero, Nat.reduceAdd]; rfl) | rfl)) rfl rfl rfl H201 ?_
      clear H201; intro a202 H202
      refine st_store1N rfl z_size22 rfl rfl rfl (by repeat (first | exact Uh | apply Ut)) q_len_c2 q_set_c2_1 (by decide) rfl rfl H202 ?_
      clear H202; intro wx203 H203
      refine fin ?_
      refine then_n ?_
      refine wp_seq ?_
      refine wp_seq ?_
      refine reg ?_
      refine plain (y_move rfl rfl) rfl rfl rfl H203 ?_
      clear H203; intro a204 H204
      refine fin ?_
      refine then_n ?_
      refine cnd H204 rfl (fun hc205 => ?_) (fun hc205 => ?_) -- cond 9
      · skip
        try simp only [decide_eq_true_eq, decide_eq_false_iff_not, Bool.not_eq_true', Bool.not_eq_false', Bool.and_eq_true, Bool.not_eq_true, Bool.not_eq_false] at hc205
        have hok1 := hc205
        refine reg ?_
        refine plain (y_move rfl rfl) rfl rfl rfl H204 ?_
        clear H204; intro a206 H206
        refine plain (y_fieldB rfl z_field32_0 rfl (by first | (simp only [Nat.zero_add, Nat.add_zero, Nat.reduceAdd]; rfl) | rfl)) rfl rfl rfl H206 ?_
        clear H206; intro a207 H207
        refine plain (y_fieldB rfl z_field30_1 rfl (by first | (simp only [Nat.zero_add, Nat.add_zero, Nat.reduceAdd]; rfl) | rfl)) rfl rfl rfl H207 ?_
        clear H207; intro a208 H208
        refine plain (y_loadB rfl z_agg3 rfl (by repeat (first | exact Mh | apply Mt)) q_ix_c4b32c1_1) rfl rfl rfl H208 ?_
        clear H208; intro a209 H209
        refine plain (y_fieldB rfl z_field32_1 rfl (by first | (simp only [Nat.zero_add, Nat.add_zero, Nat.reduceAdd]; rfl) | rfl)) rfl rfl rfl H209 ?_
        clear H209; intro a210 H210
        refine plain (y_loadB rfl z_agg3 rfl (by repeat (first | exact Mh | apply Mt)) (q_ix_c4b32c1_36 (by assumption))) rfl rfl rfl H210 ?_
        clear H210; intro a211 H211
        refine st_callu rfl z_call67 rfl rfl rfl rfl H211 (rtake bx g hbg B hB (Auction.win (Auction.of L r) B r floor).1.bid.who (Auction.win (Auction.of L r) B r floor).1.price (H211.sep.all _ (by repeat (first | exact Mh | apply Mt))) (H211.sep.all _ (by repeat (first | exact Mh | apply Mt)))) (by repeat (first | exact Uh | apply Ut)) ?_
        clear H211; intro a212 wx212 H212
        refine fin ?_
        refine then_n ?_
        refine wp_seq ?_
        refine reg ?_
        refine plain (y_loadAB rfl z_agg32 z_size32 rfl (by repeat (first | exact Mh | apply Mt)) (q_ld_c4b32c1_0_37 (by assumption)) (q_len_c4b32c1 (by assumption))) rfl rfl rfl H212 ?_
        clear H212; intro a213 H213
        refine plain (y_move rfl rfl) rfl rfl rfl H213 ?_
        clear H213; intro a214 H214
        refine st_storeN rfl z_size32 rfl rfl (agg_cells _) (by repeat (first | exact Uh | apply Ut)) (q_one_c4b32c1 rfl rfl rfl rfl rfl) (q_len_c4b32c1 (by assumption)) (q_len_c4b32c1 (by assumption)) (q_spl_c4b32c1_0_c4b32c1 (by assumption) (by assumption)) (by decide) rfl rfl H214 ?_
        clear H214; intro wx215 H215
        refine plain (y_assign rfl rfl) rfl rfl rfl H215 ?_
        clear H215; intro a216 H216
        refine fin ?_
        refine then_n ?_
        refine wp_ret ?_
        -- return 5
        refine retct rfl H216 rfl z_agg32 z_size32 (by repeat (first | exact Mh | apply Mt)) (q_len_c4b32c1 (by assumption)) rfl ?_
        first | (have hz := hok1; rw [Auction.paid_yes hok1]; exact ⟨_, _, rfl, ⟨rfl, _, rfl⟩, (H216.only (is := [It.row 30 36 (.slice A1 (Auction.less L r).length c1) (Auction.less L r).length (Auction.bdc (Auction.less L r)), It.blk x 81 [i64 floor, (.slice A1 (Auction.less L r).length c1)], It.blk bx 90 [.slice (some ⟨g, 0, none⟩) 64 64], It.blk g 3 ((Bank.take B (Auction.win (Auction.of L r) B r floor).1.bid.who (Auction.win (Auction.of L r) B r floor).1.price).2.map i64)]) (.cons (by repeat (first | exact Ph | apply Pt)) (.cons (by repeat (first | exact Ph | apply Pt)) (.cons (by repeat (first | exact Ph | apply Pt)) (.cons (by repeat (first | exact Ph | apply Pt)) (.nil _)))))).sep⟩) | (have hz := hno; rw [Auction.paid_no (by rw [hno]; exact Bool.false_ne_true)]; exact ⟨_, _, rfl, ⟨rfl, _, rfl⟩, (H216.only (is := [It.row 30 36 (.slice A1 (Auction.less L r).length c1) (Auction.less L r).length (Auction.bdc (Auction.less L r)), It.blk x 81 [i64 floor, (.slice A1 (Auction.less L r).length c1)], It.blk bx 90 [.slice (some ⟨g, 0, none⟩) 64 64], It.blk g 3 (B.map i64)]) (.cons (by repeat (first | exact Ph | apply Pt)) (.cons (by repeat (first | exact Ph | apply Pt)) (.cons (by repeat (first | exact Ph | apply Pt)) (.cons (by repeat (first | exact Ph | apply Pt)) (.nil _)))))).sep⟩)
      · skip
        try simp only [decide_eq_true_eq, decide_eq_false_iff_not, Bool.not_eq_true', Bool.not_eq_false', Bool.and_eq_true, Bool.not_eq_true, Bool.not_eq_false] at hc205
        have hno := hc205
        refine wp_skip ?_
        refine then_n ?_
        refine wp_seq ?_
        refine reg ?_
        refine plain (y_loadAB rfl z_agg32 z_size32 rfl (by repeat (first | exact Mh | apply Mt)) (q_ld_c4b32c1_0_37 (by assumption)) (q_len_c4b32c1 (by assumption))) rfl rfl rfl H204 ?_
        clear H204; intro a217 H217
        refine plain (y_move rfl rfl) rfl rfl rfl H217 ?_
        clear H217; intro a218 H218
        refine st_storeN rfl z_size32 rfl rfl (agg_cells _) (by repeat (first | exact Uh | apply Ut)) (q_one_c4b32c1 rfl rfl rfl rfl rfl) (q_len_c4b32c1 (by assumption)) (q_len_c4b32c1 (by assumption)) (q_spl_c4b32c1_0_c4b32c1 (by assumption) (by assumption)) (by decide) rfl rfl H218 ?_
        clear H218; intro wx219 H219
        refine plain (y_assign rfl rfl) rfl rfl rfl H219 ?_
        clear H219; intro a220 H220
        refine fin ?_
        refine then_n ?_
        refine wp_ret ?_
        -- return 6
        refine retct rfl H220 rfl z_agg32 z_size32 (by repeat (first | exact Mh | apply Mt)) (q_len_c4b32c1 (by assumption)) rfl ?_
        first | (have hz := hok1; rw [Auction.paid_yes hok1]; exact ⟨_, _, rfl, ⟨rfl, _, rfl⟩, (H220.only (is := [It.row 30 36 (.slice A1 (Auction.less L r).length c1) (Auction.less L r).length (Auction.bdc (Auction.less L r)), It.blk x 81 [i64 floor, (.slice A1 (Auction.less L r).length c1)], It.blk bx 90 [.slice (some ⟨g, 0, none⟩) 64 64], It.blk g 3 ((Bank.take B (Auction.win (Auction.of L r) B r floor).1.bid.who (Auction.win (Auction.of L r) B r floor).1.price).2.map i64)]) (.cons (by repeat (first | exact Ph | apply Pt)) (.cons (by repeat (first | exact Ph | apply Pt)) (.cons (by repeat (first | exact Ph | apply Pt)) (.cons (by repeat (first | exact Ph | apply Pt)) (.nil _)))))).sep⟩) | (have hz := hno; rw [Auction.paid_no (by rw [hno]; exact Bool.false_ne_true)]; exact ⟨_, _, rfl, ⟨rfl, _, rfl⟩, (H220.only (is := [It.row 30 36 (.slice A1 (Auction.less L r).length c1) (Auction.less L r).length (Auction.bdc (Auction.less L r)), It.blk x 81 [i64 floor, (.slice A1 (Auction.less L r).length c1)], It.blk bx 90 [.slice (some ⟨g, 0, none⟩) 64 64], It.blk g 3 (B.map i64)]) (.cons (by repeat (first | exact Ph | apply Pt)) (.cons (by repeat (first | exact Ph | apply Pt)) (.cons (by repeat (first | exact Ph | apply Pt)) (.cons (by repeat (first | exact Ph | apply Pt)) (.nil _)))))).sep⟩)

end Go.Proofs.YtaeahloenahelaaDoor.A_Xb2

set_option linter.unusedVariables false
set_option linter.unusedSimpArgs false
namespace Go.Proofs.YtaeahloenahelaaDoor.A_L9
open Go.Sx Go.RowKit Go.Proofs.YtaeahloenahelaaDoor.A_Block Go.Proofs.YtaeahloenahelaaDoor.A_Sum Go.Proofs.YtaeahloenahelaaDoor.A_Ref Go.Proofs.YtaeahloenahelaaDoor.A_RSum Go.Proofs.YtaeahloenahelaaDoor.A_Leaf Go.Proofs.YtaeahloenahelaaDoor.A_Num Go.Proofs.YtaeahloenahelaaDoor.A_Key Go.Proofs.YtaeahloenahelaaDoor.A_Ref Go.Proofs.YtaeahloenahelaaDoor.A_RSum Go.Proofs.YtaeahloenahelaaDoor.A_Tag Go.Proofs.YtaeahloenahelaaDoor.A_Lay Go.Proofs.YtaeahloenahelaaDoor.A_Eq Go.Proofs.YtaeahloenahelaaDoor.A_Ref0 Go.Proofs.YtaeahloenahelaaDoor.A_Sign Go.Proofs.YtaeahloenahelaaDoor.A_RefB Go.Proofs.YtaeahloenahelaaDoor.A_Win Go.Proofs.YtaeahloenahelaaDoor.A_RWin Go.Proofs.YtaeahloenahelaaDoor.A_Law Go.Proofs.YtaeahloenahelaaDoor.A_EqW Go.Proofs.YtaeahloenahelaaDoor.A_RCnt Go.Proofs.YtaeahloenahelaaDoor.A_Bk1 Go.Proofs.YtaeahloenahelaaDoor.A_Bk2 Go.Proofs.YtaeahloenahelaaDoor.A_Bo1 Go.Proofs.YtaeahloenahelaaDoor.A_Bo2 Go.Proofs.YtaeahloenahelaaDoor.A_Xb1 Go.Proofs.YtaeahloenahelaaDoor.A_Xb2

theorem z_call33 : callB Tryd.prog 33 = true := by kernel_rfl
theorem z_call15 : callB Tryd.prog 15 = true := by kernel_rfl
theorem z_zeroN81 : zeroL Tryd.prog 81 = some ((.int .i64 0 :: (.slice none 0 0 :: []))) := by kernel_rfl
theorem z_places81 : placesB Tryd.prog 81 = some [(0, 1), (1, 1)] := by kernel_rfl
theorem q_len_c2 {a0 a1 : Value} : (a0 :: a1 :: []).length = 2 := (len_c (n := 1) (len_c (n := 0) len_n))
theorem q_spl_c2_0_c1 {a0 a1 : Value} {b0 : Value} : spl (a0 :: a1 :: []) 0 (b0 :: []) = b0 :: a1 :: [] := spl_0
theorem z_call32 : callB Tryd.prog 32 = true := by kernel_rfl
theorem z_call37 : callB Tryd.prog 37 = true := by kernel_rfl
theorem z_size85 : sizeB Tryd.prog 85 = some 39 := by kernel_rfl
theorem z_agg85 : aggB Tryd.prog 85 = some true := by kernel_rfl
theorem z_zeroN85 : zeroL Tryd.prog 85 = some ((.int .i64 0 :: (.int .i64 0 :: (.int .i64 0 :: (.int .i64 0 :: (.int .i64 0 :: (.int .i64 0 :: (.int .i64 0 :: (List.replicate 32 (0 : UInt8)).map u8)))))))) := by kernel_rfl
theorem q_one_c7b32 {a0 a1 a2 a3 a4 a5 a6 : Value} {t7 : List UInt8} (o0 : a0.oneCell' = true) (o1 : a1.oneCell' = true) (o2 : a2.oneCell' = true) (o3 : a3.oneCell' = true) (o4 : a4.oneCell' = true) (o5 : a5.oneCell' = true) (o6 : a6.oneCell' = true) : (a0 :: a1 :: a2 :: a3 :: a4 :: a5 :: a6 :: t7.map u8).all (·.oneCell') = true := (one_c o0 (one_c o1 (one_c o2 (one_c o3 (one_c o4 (one_c o5 (one_c o6 (one_u8 _))))))))
theorem q_len_c7b32 {a0 a1 a2 a3 a4 a5 a6 : Value} {t7 : List UInt8} (h7 : t7.length = 32) : (a0 :: a1 :: a2 :: a3 :: a4 :: a5 :: a6 :: t7.map u8).length = 39 := (len_c (n := 38) (len_c (n := 37) (len_c (n := 36) (len_c (n := 35) (len_c (n := 34) (len_c (n := 33) (len_c (n := 32) (len_e (k := 32) h7))))))))
theorem q_spl_c7b32_0_c7b32 {a0 a1 a2 a3 a4 a5 a6 : Value} {t7 : List UInt8} {b0 b1 b2 b3 b4 b5 b6 : Value} {s7 : List UInt8} (h7 : t7.length = 32) (g7 : s7.length = 32) : spl (a0 :: a1 :: a2 :: a3 :: a4 :: a5 :: a6 :: t7.map u8) 0 (b0 :: b1 :: b2 :: b3 :: b4 :: b5 :: b6 :: s7.map u8) = b0 :: b1 :: b2 :: b3 :: b4 :: b5 :: b6 :: s7.map u8 := (spl_a (z := 39) (len_c (n := 38) (len_c (n := 37) (len_c (n := 36) (len_c (n := 35) (len_c (n := 34) (len_c (n := 33) (len_c (n := 32) (len_e (k := 32) h7)))))))) (len_c (n := 38) (len_c (n := 37) (len_c (n := 36) (len_c (n := 35) (len_c (n := 34) (len_c (n := 33) (len_c (n := 32) (len_e (k := 32) g7)))))))))
theorem z_field85_0 : fieldB Tryd.prog 85 0 = some 0 := by kernel_rfl
theorem z_agg3 : aggB Tryd.prog 3 = some false := by kernel_rfl
theorem q_ix_c7b32_0 {a0 a1 a2 a3 a4 a5 a6 : Value} {t7 : List UInt8} : (a0 :: a1 :: a2 :: a3 :: a4 :: a5 :: a6 :: t7.map u8)[0]? = some a0 := ix_0
theorem z_field85_3 : fieldB Tryd.prog 85 3 = some 3 := by kernel_rfl
theorem z_agg30 : aggB Tryd.prog 30 = some true := by kernel_rfl
theorem z_size30 : sizeB Tryd.prog 30 = some 36 := by kernel_rfl
theorem q_ld_c7b32_3_36 {a0 a1 a2 a3 a4 a5 a6 : Value} {t7 : List UInt8} (h7 : t7.length = 32) : ((a0 :: a1 :: a2 :: a3 :: a4 :: a5 :: a6 :: t7.map u8).drop 3).take 36 = a3 :: a4 :: a5 :: a6 :: t7.map u8 := (ld_c (o := 2) (ld_c (o := 1) (ld_c (o := 0) (ld_a (len_c (n := 35) (len_c (n := 34) (len_c (n := 33) (len_c (n := 32) (len_e (k := 32) h7)))))))))
theorem q_len_c4b32 {a0 a1 a2 a3 : Value} {t4 : List UInt8} (h4 : t4.length = 32) : (a0 :: a1 :: a2 :: a3 :: t4.map u8).length = 36 := (len_c (n := 35) (len_c (n := 34) (len_c (n := 33) (len_c (n := 32) (len_e (k := 32) h4)))))
theorem z_field85_1 : fieldB Tryd.prog 85 1 = some 1 := by kernel_rfl
theorem q_ix_c7b32_1 {a0 a1 a2 a3 a4 a5 a6 : Value} {t7 : List UInt8} : (a0 :: a1 :: a2 :: a3 :: a4 :: a5 :: a6 :: t7.map u8)[1]? = some a1 := (ix_c (o := 0) ix_0)
theorem z_call34 : callB Tryd.prog 34 = true := by kernel_rfl
theorem z_call38 : callB Tryd.prog 38 = true := by kernel_rfl
theorem z_field30_1 : fieldB Tryd.prog 30 1 = some 1 := by kernel_rfl
theorem q_ix_c7b32_4 {a0 a1 a2 a3 a4 a5 a6 : Value} {t7 : List UInt8} : (a0 :: a1 :: a2 :: a3 :: a4 :: a5 :: a6 :: t7.map u8)[4]? = some a4 := (ix_c (o := 3) (ix_c (o := 2) (ix_c (o := 1) (ix_c (o := 0) ix_0))))
theorem z_field85_2 : fieldB Tryd.prog 85 2 = some 2 := by kernel_rfl
theorem q_ix_c7b32_2 {a0 a1 a2 a3 a4 a5 a6 : Value} {t7 : List UInt8} : (a0 :: a1 :: a2 :: a3 :: a4 :: a5 :: a6 :: t7.map u8)[2]? = some a2 := (ix_c (o := 1) (ix_c (o := 0) ix_0))
theorem z_call39 : callB Tryd.prog 39 = true := by kernel_rfl
theorem z_call40 : callB Tryd.prog 40 = true := by kernel_rfl
theorem z_field30_0 : fieldB Tryd.prog 30 0 = some 0 := by kernel_rfl
theorem q_ix_c7b32_3 {a0 a1 a2 a3 a4 a5 a6 : Value} {t7 : List UInt8} : (a0 :: a1 :: a2 :: a3 :: a4 :: a5 :: a6 :: t7.map u8)[3]? = some a3 := (ix_c (o := 2) (ix_c (o := 1) (ix_c (o := 0) ix_0)))
theorem z_call31 : callB Tryd.prog 31 = true := by kernel_rfl
theorem z_zeroN32 : zeroL Tryd.prog 32 = some ((.int .i64 0 :: (.int .i64 0 :: (.int .i64 0 :: (.int .i64 0 :: ((List.replicate 32 (0 : UInt8)).map u8 ++ (.int .i64 0 :: []))))))) := by kernel_rfl
theorem z_size32 : sizeB Tryd.prog 32 = some 37 := by kernel_rfl
theorem q_one_c4b32c1 {a0 a1 a2 a3 a5 : Value} {t4 : List UInt8} (o0 : a0.oneCell' = true) (o1 : a1.oneCell' = true) (o2 : a2.oneCell' = true) (o3 : a3.oneCell' = true) (o5 : a5.oneCell' = true) : (a0 :: a1 :: a2 :: a3 :: (t4.map u8 ++ (a5 :: []))).all (·.oneCell') = true := (one_c o0 (one_c o1 (one_c o2 (one_c o3 (one_b (one_c o5 one_n))))))
theorem q_len_c4b32c1 {a0 a1 a2 a3 a5 : Value} {t4 : List UInt8} (h4 : t4.length = 32) : (a0 :: a1 :: a2 :: a3 :: (t4.map u8 ++ (a5 :: []))).length = 37 := (len_c (n := 36) (len_c (n := 35) (len_c (n := 34) (len_c (n := 33) (len_b (k := 32) (n := 1) h4 (len_c (n := 0) len_n))))))
theorem q_spl_c4b32c1_0_c4b32c1 {a0 a1 a2 a3 a5 : Value} {t4 : List UInt8} {b0 b1 b2 b3 b5 : Value} {s4 : List UInt8} (h4 : t4.length = 32) (g4 : s4.length = 32) : spl (a0 :: a1 :: a2 :: a3 :: (t4.map u8 ++ (a5 :: []))) 0 (b0 :: b1 :: b2 :: b3 :: (s4.map u8 ++ (b5 :: []))) = b0 :: b1 :: b2 :: b3 :: (s4.map u8 ++ (b5 :: [])) := (spl_a (z := 37) (len_c (n := 36) (len_c (n := 35) (len_c (n := 34) (len_c (n := 33) (len_b (k := 32) (n := 1) h4 (len_c (n := 0) len_n)))))) (len_c (n := 36) (len_c (n := 35) (len_c (n := 34) (len_c (n := 33) (len_b (k := 32) (n := 1) g4 (len_c (n := 0) len_n)))))))
theorem z_call41 : callB Tryd.prog 41 = true := by kernel_rfl
theorem z_agg32 : aggB Tryd.prog 32 = some true := by kernel_rfl
theorem q_ld_c4b32c1_0_37 {a0 a1 a2 a3 a5 : Value} {t4 : List UInt8} (h4 : t4.length = 32) : ((a0 :: a1 :: a2 :: a3 :: (t4.map u8 ++ (a5 :: []))).drop 0).take 37 = a0 :: a1 :: a2 :: a3 :: (t4.map u8 ++ (a5 :: [])) := (ld_a (len_c (n := 36) (len_c (n := 35) (len_c (n := 34) (len_c (n := 33) (len_b (k := 32) (n := 1) h4 (len_c (n := 0) len_n)))))))
theorem z_call35 : callB Tryd.prog 35 = true := by kernel_rfl
theorem z_call42 : callB Tryd.prog 42 = true := by kernel_rfl
theorem z_call36 : callB Tryd.prog 36 = true := by kernel_rfl
theorem z_field90_0 : fieldB Tryd.prog 90 0 = some 0 := by kernel_rfl
theorem z_agg23 : aggB Tryd.prog 23 = some false := by kernel_rfl
theorem q_ix_c1_0 {a0 : Value} : (a0 :: [])[0]? = some a0 := ix_0
theorem z_call44 : callB Tryd.prog 44 = true := by kernel_rfl
theorem z_call43 : callB Tryd.prog 43 = true := by kernel_rfl

set_option maxRecDepth 100000 in
set_option maxHeartbeats 8000000 in
theorem auctionBooks1 (floor : Int) (h1 : 0 ≤ floor ∧ floor ≤ 1099511627776) (l : List Auction.Act) (A : Option Addr) (ca : Nat) (hl0 : l.length ≤ 9223372036854775807) (wl : ∀ z ∈ l, Auction.Act.Wf z) {w : World} (hA : Rd w A (Auction.aac l)) (hG : Glob 0 Sha.K w) : Calls Tryd.prog 11 #[.int .i64 floor, .slice A l.length ca] w (Gives (.bool true) [] w) := by
  have lz32 : (List.replicate 32 (0 : UInt8)).length = 32 := List.length_replicate
  refine enterL (args := [.int .i64 floor, .slice A l.length ca]) Tryd.func11 rfl rfl (l := []) (Sep.refl _) ?_
  intro a0 H0
  refine wp_seq ?_
  refine reg ?_
  refine plain (y_assign rfl rfl) rfl rfl rfl H0 ?_
  clear H0; intro a1 H1
  refine fin ?_
  refine then_n ?_
  refine wp_seq ?_
  refine reg ?_
  refine plain (y_move rfl rfl) rfl rfl rfl H1 ?_
  clear H1; intro a2 H2
  refine st_call rfl z_call33 rfl rfl rfl rfl H2 (anew floor h1 _) ?_
  clear H2; intro v3 l3 a3 wx3 hf3 H3
  obtain ⟨b, h, rfl, rfl⟩ := hf3
  simp only [List.cons_append, List.nil_append] at H3
  refine plain (y_move rfl rfl) rfl rfl rfl H3 ?_
  clear H3; intro a4 H4
  refine plain (y_extract rfl rfl rfl) rfl rfl rfl H4 ?_
  clear H4; intro a5 H5
  refine plain (y_extract rfl rfl rfl) rfl rfl rfl H5 ?_
  clear H5; intro a6 H6
  refine plain (y_assign rfl rfl) rfl rfl rfl H6 ?_
  clear H6; intro a7 H7
  refine plain (y_assign rfl rfl) rfl rfl rfl H7 ?_
  clear H7; intro a8 H8
  refine fin ?_
  refine then_n ?_
  refine wp_seq ?_
  refine wp_seq ?_
  refine reg ?_
  refine plain (y_move rfl rfl) rfl rfl rfl H8 ?_
  clear H8; intro a9 H9
  refine plain (y_eql rfl rfl rfl) rfl rfl rfl H9 ?_
  clear H9; intro a10 H10
  refine plain (y_move rfl rfl) rfl rfl rfl H10 ?_
  clear H10; intro a11 H11
  refine plain (y_lss rfl rfl rfl) rfl rfl rfl H11 ?_
  clear H11; intro a12 H12
  refine plain (y_move rfl rfl) rfl rfl rfl H12 ?_
  clear H12; intro a13 H13
  have H15 := H13.know (d := 25) (v := .bool false) rfl (congrArg Value.bool (by first | exact decide_eq_false (by omega) | rfl | (simp; done) | (simp; omega)))
  clear H13
  refine plain (y_move rfl rfl) rfl rfl rfl H15 ?_
  clear H15; intro a16 H16
  refine plain (y_gtr rfl rfl rfl) rfl rfl rfl H16 ?_
  clear H16; intro a17 H17
  refine plain (y_pick_f rfl rfl rfl) rfl rfl rfl H17 ?_
  clear H17; intro a18 H18
  refine plain (y_bneq rfl Tryd.underlying4 rfl rfl) rfl rfl rfl H18 ?_
  clear H18; intro a19 H19
  refine plain (y_move rfl rfl) rfl rfl rfl H19 ?_
  clear H19; intro a20 H20
  have H22 := H20.know (d := 30) (v := .bool false) rfl (congrArg Value.bool (by first | fail | rfl | (simp; done) | (simp; omega)))
  clear H20
  refine plain (y_move rfl rfl) rfl rfl rfl H22 ?_
  clear H22; intro a23 H23
  refine plain (y_peql rfl Tryd.underlying68 rfl rfl) rfl rfl rfl H23 ?_
  clear H23; intro a24 H24
  refine plain (y_move rfl rfl) rfl rfl rfl H24 ?_
  clear H24; intro a25 H25
  refine plain (y_neq rfl rfl rfl) rfl rfl rfl H25 ?_
  clear H25; intro a26 H26
  refine plain (y_bneq rfl Tryd.underlying4 rfl rfl) rfl rfl rfl H26 ?_
  clear H26; intro a27 H27
  refine plain (y_pick_f rfl rfl rfl) rfl rfl rfl H27 ?_
  clear H27; intro a28 H28
  refine plain (y_move rfl rfl) rfl rfl rfl H28 ?_
  clear H28; intro a29 H29
  have H31 := H29.know (d := 37) (v := .bool false) rfl (congrArg Value.bool (by first | fail | rfl | (simp; done) | (simp; omega)))
  clear H29
  refine st_callg rfl z_call15 rfl rfl rfl rfl H31 (aawake (hG.frm H31.sep.frm (by simp))) ?_
  clear H31; intro a32 wx32 H32
  refine plain (y_not rfl rfl) rfl rfl rfl H32 ?_
  clear H32; intro a33 H33
  refine plain (y_pick_f rfl rfl rfl) rfl rfl rfl H33 ?_
  clear H33; intro a34 H34
  refine fin ?_
  refine then_n ?_
  refine cnd_f H34 rfl ?_
  refine wp_skip ?_
  refine then_n ?_
  refine wp_seq ?_
  refine wp_seq ?_
  refine reg ?_
  refine plain (y_move rfl rfl) rfl rfl rfl H34 ?_
  clear H34; intro a36 H36
  refine plain (y_peql rfl Tryd.underlying68 rfl rfl) rfl rfl rfl H36 ?_
  clear H36; intro a37 H37
  refine fin ?_
  refine then_n ?_
  refine cnd_f H37 rfl ?_
  refine wp_skip ?_
  refine then_n ?_
  refine wp_seq ?_
  refine reg ?_
  refine plain (y_move rfl rfl) rfl rfl rfl H37 ?_
  clear H37; intro a39 H39
  refine plain (y_build rfl z_zeroN81 z_places81 rfl (lay_1 (off := 0) (n := 2) rfl q_len_c2 (by decide) q_spl_c2_0_c1 lay_n (by rfl))) rfl rfl rfl H39 ?_
  clear H39; intro a40 H40
  refine st_box rfl rfl (agg_cells _) rfl rfl rfl H40 ?_
  clear H40; intro b41 a41 wx41 H41
  refine st_call rfl z_call32 rfl rfl rfl rfl H41 (bnew _) ?_
  clear H41; intro v42 l42 a42 wx42 hf42 H42
  obtain ⟨k0, rfl, rfl⟩ := hf42
  simp only [List.cons_append, List.nil_append] at H42
  refine st_call rfl z_call37 rfl rfl rfl rfl H42 (rnew _) ?_
  clear H42; intro v43 l43 a43 wx43 hf43 H43
  obtain ⟨bx, g, rfl, rfl⟩ := hf43
  simp only [List.cons_append, List.nil_append] at H43
  refine plain (y_assign rfl rfl) rfl rfl rfl H43 ?_
  clear H43; intro a44 H44
  refine plain (y_assign rfl rfl) rfl rfl rfl H44 ?_
  clear H44; intro a45 H45
  refine plain (y_assign rfl rfl) rfl rfl rfl H45 ?_
  clear H45; intro a46 H46
  refine fin ?_
  refine then_n ?_
  refine wp_seq ?_
  refine wp_seq ?_
  have hbg := H46.sep.ne_of (b := bx) (b' := g) (by repeat (first | exact Mh | apply Mt)) (by repeat (first | exact Mh | apply Mt))
  refine reg ?_
  refine plain (y_assign rfl rfl) rfl rfl rfl H46 ?_
  clear H46; intro a47 H47
  refine fin ?_
  refine then_n ?_
  refine wp_block ?_
  replace H47 := H47.nilRow 30 36
  replace H47 := (H47.only (is := [It.blk b 111 [i64 floor, .map (some h)], It.mp h (fun _ => none), It.blk k0 114 ((List.replicate 64 (0 : Int)).map i64), It.row 30 36 (.slice none 0 0 : Value) ([] : List Note.Bid).length (Auction.bdc ([] : List Note.Bid)), It.blk b41 81 [i64 floor, (.slice none 0 0 : Value)], It.blk bx 90 [.slice (some ⟨g, 0, none⟩) 64 64], It.blk g 3 ((List.replicate 64 (0 : Int)).map i64)]) (.cons (by repeat (first | exact Ph | apply Pt)) (.cons (by repeat (first | exact Ph | apply Pt)) (.cons (by repeat (first | exact Ph | apply Pt)) (.cons (by repeat (first | exact Ph | apply Pt)) (.cons (by repeat (first | exact Ph | apply Pt)) (.cons (by repeat (first | exact Ph | apply Pt)) (.cons (by repeat (first | exact Ph | apply Pt)) (.nil _)))))))))
  refine loop (ι := Nat × (List Note.Bid × ((Int → Option Value) × (List (Int × Value) × (List Int × Value))))) (fun y => [(1, .slice A l.length ca), (5, .pointer (some ⟨b, 0, none⟩)), (7, .pointer (some ⟨b41, 0, none⟩)), (8, .pointer (some ⟨k0, 0, none⟩)), (9, .pointer (some ⟨bx, 0, none⟩)), (10, .int .i64 (y.1 : Int))]) (fun y => (It.blk b 111 [i64 floor, .map (some h)] :: It.mp h y.2.2.1 :: It.blk k0 114 (y.2.2.2.2.1.map i64) :: It.row 30 36 y.2.2.2.2.2 y.2.1.length (Auction.bdc y.2.1) :: It.blk b41 81 [i64 floor, y.2.2.2.2.2] :: It.blk bx 90 [.slice (some ⟨g, 0, none⟩) 64 64] :: It.blk g 3 (y.2.2.2.2.1.map i64) :: (Auction.rowsOf 30 y.2.1 y.2.2.2.1))) (fun y => y.1 ≤ 120 ∧ y.2.1.length ≤ y.1 ∧ Auction.Wfb y.2.1 ∧ Bank.Ok y.2.2.2.2.1 ∧ Auction.Keyed y.2.2.1 y.2.2.2.1 ∧ Auction.Covers y.2.1 y.2.2.2.1) (fun y => 120 - y.1) ((0, (([] : List Note.Bid), ((fun _ => none : Int → Option Value), (([] : List (Int × Value)), (List.replicate 64 (0 : Int), (.slice none 0 0 : Value))))))) ⟨Nat.zero_le _, Nat.zero_le _, fun _ hq => absurd hq (by simp), Bank.Ok.zero, Auction.keyed_nil, Auction.covers_nil _⟩ (H47.weak ⟨rfl, rfl, rfl, rfl, rfl, rfl, trivial⟩ rfl) ?_
  clear H47; intro y a48 wx48 hok48 H48
  obtain ⟨k, L, f, D, B, vx⟩ := y
  dsimp only at hok48 H48
  obtain ⟨hk, hLk, hL, hB, hKD, hCD⟩ := hok48
  have hLl : L.length ≤ 1000 := by omega
  obtain ⟨v, D2, hK2, hC2, hfoc⟩ := Auction.focus hKD hCD (l.getD k Auction.Act.zero).bid.round
  have hkd := hK2.head
  replace H48 := hfoc _ _ _ _ _ [It.blk b 111 [i64 floor, .map (some h)], It.mp h f, It.blk k0 114 (B.map i64), It.row 30 36 vx L.length (Auction.bdc L), It.blk b41 81 [i64 floor, vx], It.blk bx 90 [.slice (some ⟨g, 0, none⟩) 64 64], It.blk g 3 (B.map i64)] _ _ H48
  simp only [List.cons_append, List.nil_append] at H48
  have hof := Auction.of_wf hL (l.getD k Auction.Act.zero).bid.round
  have hofl : (Auction.of L (l.getD k Auction.Act.zero).bid.round).length ≤ 1000 := by have := Auction.of_len L (l.getD k Auction.Act.zero).bid.round; omega
  refine wp_seq ?_
  refine wp_seq ?_
  refine reg ?_
  refine plain (y_move rfl rfl) rfl rfl rfl H48 ?_
  clear H48; intro a49 H49
  refine plain (y_move rfl rfl) rfl rfl rfl H49 ?_
  clear H49; intro a50 H50
  refine plain (y_len rfl Tryd.underlying78 rfl) rfl rfl rfl H50 ?_
  clear H50; intro a51 H51
  refine plain (y_lss rfl rfl rfl) rfl rfl rfl H51 ?_
  clear H51; intro a52 H52
  refine plain (y_move rfl rfl) rfl rfl rfl H52 ?_
  clear H52; intro a53 H53
  refine Sx.part (d := 52) H53 rfl (fun hg54 => ?_) (fun hg54 => ?_)
  · first
    | fail
    | skip
      clear H53; intro H55
      try simp only [decide_eq_true_eq, decide_eq_false_iff_not, Bool.not_eq_true', Bool.not_eq_false', Bool.and_eq_true, Bool.not_eq_true, Bool.not_eq_false] at hg54
      refine plain (y_move rfl rfl) rfl rfl rfl H55 ?_
      clear H55; intro a56 H56
      refine plain (y_lss rfl rfl rfl) rfl rfl rfl H56 ?_
      clear H56; intro a57 H57
      refine plain (y_pick_t rfl rfl rfl) rfl rfl rfl H57 ?_
      clear H57; intro a58 H58
      refine fin ?_
      refine then_n ?_
      refine cnd H58 rfl (fun hc59 => ?_) (fun hc59 => ?_) -- cond 3
      · skip
        try simp only [decide_eq_true_eq, decide_eq_false_iff_not, Bool.not_eq_true', Bool.not_eq_false', Bool.and_eq_true, Bool.not_eq_true, Bool.not_eq_false] at hc59
        refine wp_skip ?_
        refine then_n ?_
        refine wp_seq ?_
        refine wp_block ?_
        refine wp_seq ?_
        have hkl : k < l.length := by omega
        have wc := Auction.aactD wl hkl
        have htg := wc.bid.tag
        refine reg ?_
        refine plain (y_move rfl rfl) rfl rfl rfl H58 ?_
        clear H58; intro a60 H60
        refine plain (y_move rfl rfl) rfl rfl rfl H60 ?_
        clear H60; intro a61 H61
        refine plain (y_ixR rfl Tryd.underlying78 z_size85 rfl rfl (by omega) (by omega) (rd_old hA (by simp)) (by rw [Auction.aac_len wl]; omega)) rfl rfl rfl H61 ?_
        clear H61; intro a62 H62
        refine plain (y_loadAS rfl z_agg85 z_size85 rfl (rd_old hA (by simp)) (show _ = Auction.Act.cells (l.getD k Auction.Act.zero) from Auction.aac_take wl k (by omega)) wc.len (by decide)) rfl rfl rfl H62 ?_
        clear H62; intro a63 H63
        refine st_alloc rfl z_zeroN85 rfl rfl rfl H63 ?_
        clear H63; intro b64 a64 wx64 H64
        refine st_storeN rfl z_size85 rfl rfl (agg_cells _) (by repeat (first | exact Uh | apply Ut)) (q_one_c7b32 rfl rfl rfl rfl rfl rfl rfl) (q_len_c7b32 (by assumption)) (q_len_c7b32 (by assumption)) (q_spl_c7b32_0_c7b32 (by assumption) (by assumption)) (by decide) rfl rfl H64 ?_
        clear H64; intro wx65 H65
        refine fin ?_
        refine then_n ?_
        refine wp_seq ?_
        refine wp_seq ?_
        refine reg ?_
        refine plain (y_fieldB rfl z_field85_0 rfl (by first | (simp only [Nat.zero_add, Nat.add_zero, Nat.reduceAdd]; rfl) | rfl)) rfl rfl rfl H65 ?_
        clear H65; intro a66 H66
        refine plain (y_loadB rfl z_agg3 rfl (by repeat (first | exact Mh | apply Mt)) q_ix_c7b32_0) rfl rfl rfl H66 ?_
        clear H66; intro a67 H67
        refine fin ?_
        refine then_n ?_
        refine wp_cut (fun aC wC => ∃ (L1 : List Note.Bid) (f1 : Int → Option Value) (v1 : Value) (B1 : List Int) (vx1 : Value), (L1.length ≤ k + 1 ∧ Auction.Wfb L1 ∧ Bank.Ok B1 ∧ Auction.Keyed f1 (((l.getD k Auction.Act.zero).bid.round, v1) :: D2) ∧ Auction.Covers L1 (((l.getD k Auction.Act.zero).bid.round, v1) :: D2) ∧ ∀ q, q ≠ (l.getD k Auction.Act.zero).bid.round → Auction.of L1 q = Auction.of L q) ∧ St Tryd.f11.ntmps [] w ([(1, .slice A l.length ca), (5, .pointer (some ⟨b, 0, none⟩)), (7, .pointer (some ⟨b41, 0, none⟩)), (8, .pointer (some ⟨k0, 0, none⟩)), (9, .pointer (some ⟨bx, 0, none⟩)), (10, .int .i64 (k : Int)), (11, .pointer (some ⟨b64, 0, none⟩))]) ((It.blk b64 85 (Auction.Act.cells (l.getD k Auction.Act.zero)) :: It.row 30 36 v1 (Auction.of L1 (l.getD k Auction.Act.zero).bid.round).length (Auction.bdc (Auction.of L1 (l.getD k Auction.Act.zero).bid.round)) :: It.blk b 111 [i64 floor, .map (some h)] :: It.mp h f1 :: It.blk k0 114 (B1.map i64) :: It.row 30 36 vx1 L1.length (Auction.bdc L1) :: It.blk b41 81 [i64 floor, vx1] :: It.blk bx 90 [.slice (some ⟨g, 0, none⟩) 64 64] :: It.blk g 3 (B1.map i64) :: (Auction.rowsOf 30 L D2))) aC wC) ?_ ?_
        · skip
          refine wp_block ?_
          refine wp_seq ?_
          refine wp_seq ?_
          refine reg ?_
          refine plain (y_eql rfl rfl rfl) rfl rfl rfl H67 ?_
          clear H67; intro a68 H68
          refine plain (y_assign rfl rfl) rfl rfl rfl H68 ?_
          clear H68; intro a69 H69
          refine fin ?_
          refine then_n ?_
          refine cnd H69 rfl (fun hc70 => ?_) (fun hc70 => ?_) -- cond 4
          · skip
            try simp only [decide_eq_true_eq, decide_eq_false_iff_not, Bool.not_eq_true', Bool.not_eq_false', Bool.and_eq_true, Bool.not_eq_true, Bool.not_eq_false] at hc70
            have hk0 := hc70
            refine wp_skip ?_
            refine then_n ?_
            refine cnd H69 rfl (fun hc71 => ?_) (fun hc71 => ?_) -- cond 5
            · skip
              try simp only [decide_eq_true_eq, decide_eq_false_iff_not, Bool.not_eq_true', Bool.not_eq_false', Bool.and_eq_true, Bool.not_eq_true, Bool.not_eq_false] at hc71
              refine wp_seq ?_
              refine hreg [It.blk b64 85 (Auction.Act.cells (l.getD k Auction.Act.zero))] (fun _ h => (h.sub (by first | exact S0 | exact S1 | repeat (first | exact S1 | exact S0 | apply S2 | apply S3)))) (by kernel_rfl) H69 ?_
              clear H69; intro wx72 H72
              refine htake 0 rfl (by kernel_rfl) (y_move rfl rfl) rfl rfl rfl (fun _ h => (h.sub (by first | exact S0 | exact S1 | repeat (first | exact S1 | exact S0 | apply S2 | apply S3)))) H72 ?_
              clear H72; intro a73 H73
              refine htake 1 rfl (by kernel_rfl) (y_fieldB rfl z_field85_3 rfl (by first | (simp only [Nat.zero_add, Nat.add_zero, Nat.reduceAdd]; rfl) | rfl)) rfl rfl rfl (fun _ h => (h.sub (by first | exact S0 | exact S1 | repeat (first | exact S1 | exact S0 | apply S2 | apply S3)))) H73 ?_
              clear H73; intro a74 H74
              refine htake 2 rfl (by kernel_rfl) (y_loadAB rfl z_agg30 z_size30 rfl (by repeat (first | exact Mh | apply Mt)) (q_ld_c7b32_3_36 (by assumption)) (q_len_c4b32 (by assumption))) rfl rfl rfl (fun _ h => (h.sub (by first | exact S0 | exact S1 | repeat (first | exact S1 | exact S0 | apply S2 | apply S3)))) H74 ?_
              clear H74; intro a75 H75
              refine htake 3 rfl (by kernel_rfl) (y_fieldB rfl z_field85_1 rfl (by first | (simp only [Nat.zero_add, Nat.add_zero, Nat.reduceAdd]; rfl) | rfl)) rfl rfl rfl (fun _ h => (h.sub (by first | exact S0 | exact S1 | repeat (first | exact S1 | exact S0 | apply S2 | apply S3)))) H75 ?_
              clear H75; intro a76 H76
              refine htake 4 rfl (by kernel_rfl) (y_loadB rfl z_agg3 rfl (by repeat (first | exact Mh | apply Mt)) q_ix_c7b32_1) rfl rfl rfl (fun _ h => (h.sub (by first | exact S0 | exact S1 | repeat (first | exact S1 | exact S0 | apply S2 | apply S3)))) H76 ?_
              clear H76; intro a77 H77
              refine htake 6 rfl (by kernel_rfl) (y_move rfl rfl) rfl rfl rfl (fun _ h => (h.sub (by first | exact S0 | exact S1 | repeat (first | exact S1 | exact S0 | apply S2 | apply S3)))) H77 ?_
              clear H77; intro a78 H78
              refine htake 7 rfl (by kernel_rfl) (y_fieldB rfl z_field85_3 rfl (by first | (simp only [Nat.zero_add, Nat.add_zero, Nat.reduceAdd]; rfl) | rfl)) rfl rfl rfl (fun _ h => (h.sub (by first | exact S0 | exact S1 | repeat (first | exact S1 | exact S0 | apply S2 | apply S3)))) H78 ?_
              clear H78; intro a79 H79
              refine htake 8 rfl (by kernel_rfl) (y_loadAB rfl z_agg30 z_size30 rfl (by repeat (first | exact Mh | apply Mt)) (q_ld_c7b32_3_36 (by assumption)) (q_len_c4b32 (by assumption))) rfl rfl rfl (fun _ h => (h.sub (by first | exact S0 | exact S1 | repeat (first | exact S1 | exact S0 | apply S2 | apply S3)))) H79 ?_
              clear H79; intro a80 H80
              refine htake 9 rfl (by kernel_rfl) (y_fieldB rfl z_field85_1 rfl (by first | (simp only [Nat.zero_add, Nat.add_zero, Nat.reduceAdd]; rfl) | rfl)) rfl rfl rfl (fun _ h => (h.sub (by first | exact S0 | exact S1 | repeat (first | exact S1 | exact S0 | apply S2 | apply S3)))) H80 ?_
              clear H80; intro a81 H81
              refine htake 10 rfl (by kernel_rfl) (y_loadB rfl z_agg3 rfl (by repeat (first | exact Mh | apply Mt)) q_ix_c7b32_1) rfl rfl rfl (fun _ h => (h.sub (by first | exact S0 | exact S1 | repeat (first | exact S1 | exact S0 | apply S2 | apply S3)))) H81 ?_
              clear H81; intro a82 H82
              refine hgo 5 rfl (by kernel_rfl) ?_
              refine st_callk2 (is := [It.blk b 111 [i64 floor, .map (some h)], It.mp h f, It.row 30 36 v (Auction.of L (l.getD k Auction.Act.zero).bid.round).length (Auction.bdc (Auction.of L (l.getD k Auction.Act.zero).bid.round))]) (enters_call rfl z_call34 rfl) rfl rfl rfl H82 (.cons (by repeat (first | exact Ph | apply Pt)) (.cons (by repeat (first | exact Ph | apply Pt)) (.cons (by repeat (first | exact Ph | apply Pt)) (.nil _)))) (fun hs => abid floor (Auction.of L (l.getD k Auction.Act.zero).bid.round) hof hofl f v b h (l.getD k Auction.Act.zero).bid wc.bid (l.getD k Auction.Act.zero).now hkd.1 hs (hG.frm H82.sep.frm (by simp)) (fps_new H82.sep (.cons (by repeat (first | exact Ph | apply Pt)) (.cons (by repeat (first | exact Ph | apply Pt)) (.cons (by repeat (first | exact Ph | apply Pt)) (.nil _)))) hG (by decide))) ?_
              clear H82; intro v83 l83 a83 wx83 hf83 H83
              obtain ⟨rfl, f1, v1, hv1, hf1, rfl⟩ := hf83
              simp only [List.cons_append, List.nil_append] at H83
              refine hfinA H83.sep ?_
              refine hgo 11 rfl (by kernel_rfl) ?_
              refine st_callk2 (is := [It.row 30 36 vx L.length (Auction.bdc L), It.blk b41 81 [i64 floor, vx]]) (enters_call rfl z_call38 rfl) rfl rfl rfl H83 (.cons (by repeat (first | exact Ph | apply Pt)) (.cons (by repeat (first | exact Ph | apply Pt)) (.nil _))) (fun hs => xbid floor L hL hLl b41 vx (l.getD k Auction.Act.zero).bid wc.bid (l.getD k Auction.Act.zero).now hs) ?_
              clear H83; intro v84 l84 a84 wx84 hf84 H84
              obtain ⟨rfl, vx1, rfl⟩ := hf84
              simp only [List.cons_append, List.nil_append] at H84
              refine hfinA H84.sep ?_
              refine htake 12 rfl (by kernel_rfl) (y_neq rfl rfl rfl) rfl rfl rfl (fun _ h => (h.sub (by first | exact S0 | exact S1 | repeat (first | exact S1 | exact S0 | apply S2 | apply S3)))) H84 ?_
              clear H84; intro a85 H85
              refine hdone (by kernel_rfl) ?_
              refine then_n ?_
              refine cnd H85 rfl (fun hc86 => ?_) (fun hc86 => ?_) -- cond 6
              · (try simp only [decide_eq_true_eq, decide_eq_false_iff_not, Bool.not_eq_true', Bool.not_eq_false', Bool.and_eq_true, Bool.not_eq_true, Bool.not_eq_false] at hc86); (exfalso; first | exact hc86 rfl | exact hc86 trivial | simp at hc86)
              · skip
                try simp only [decide_eq_true_eq, decide_eq_false_iff_not, Bool.not_eq_true', Bool.not_eq_false', Bool.and_eq_true, Bool.not_eq_true, Bool.not_eq_false] at hc86
                refine wp_skip ?_
                refine inb_n ?_
                refine cut_n ?_
                first | (have hz := hk4; replace H85 := H85.nilRow 30 36; rw [show It.row 30 36 (.slice none 0 0) 0 [] = It.row 30 36 (.slice none 0 0) (Auction.of (Auction.less L (l.getD k Auction.Act.zero).bid.round) (l.getD k Auction.Act.zero).bid.round).length (Auction.bdc (Auction.of (Auction.less L (l.getD k Auction.Act.zero).bid.round) (l.getD k Auction.Act.zero).bid.round)) from by rw [Auction.less_of]; rfl] at H85; refine ⟨(Auction.less L (l.getD k Auction.Act.zero).bid.round), (mdel f (l.getD k Auction.Act.zero).bid.round), (.slice none 0 0 : Value), (Auction.paid B (Auction.win (Auction.of L (l.getD k Auction.Act.zero).bid.round) B (l.getD k Auction.Act.zero).bid.round floor)), vx1, ⟨by have := Auction.less_len L (l.getD k Auction.Act.zero).bid.round; omega, Auction.less_wf hL _, Auction.paid_ok hB _, hK2.swap Auction.mdel_at (fun q hq => Auction.mdel_ne hq), hC2.swap (fun q hq => Auction.less_other hq), fun q hq => Auction.less_other hq⟩, ?_⟩; have hfin := (H85.front (is := [It.blk b64 85 (Auction.Act.cells (l.getD k Auction.Act.zero)), It.row 30 36 (.slice none 0 0 : Value) (Auction.of (Auction.less L (l.getD k Auction.Act.zero).bid.round) (l.getD k Auction.Act.zero).bid.round).length (Auction.bdc (Auction.of (Auction.less L (l.getD k Auction.Act.zero).bid.round) (l.getD k Auction.Act.zero).bid.round)), It.blk b 111 [i64 floor, .map (some h)], It.mp h (mdel f (l.getD k Auction.Act.zero).bid.round), It.blk k0 114 ((Auction.paid B (Auction.win (Auction.of L (l.getD k Auction.Act.zero).bid.round) B (l.getD k Auction.Act.zero).bid.round floor)).map i64), It.row 30 36 vx1 (Auction.less L (l.getD k Auction.Act.zero).bid.round).length (Auction.bdc (Auction.less L (l.getD k Auction.Act.zero).bid.round)), It.blk b41 81 [i64 floor, vx1], It.blk bx 90 [.slice (some ⟨g, 0, none⟩) 64 64], It.blk g 3 ((Auction.paid B (Auction.win (Auction.of L (l.getD k Auction.Act.zero).bid.round) B (l.getD k Auction.Act.zero).bid.round floor)).map i64)]) (.cons (by repeat (first | exact Ph | apply Pt)) (.cons (by repeat (first | exact Ph | apply Pt)) (.cons (by repeat (first | exact Ph | apply Pt)) (.cons (by repeat (first | exact Ph | apply Pt)) (.cons (by repeat (first | exact Ph | apply Pt)) (.cons (by repeat (first | exact Ph | apply Pt)) (.cons (by repeat (first | exact Ph | apply Pt)) (.cons (by repeat (first | exact Ph | apply Pt)) (.cons (by repeat (first | exact Ph | apply Pt)) (.nil _))))))))))); simp only [List.cons_append, List.nil_append] at hfin; exact (hfin.drop (l' := It.blk b64 85 (Auction.Act.cells (l.getD k Auction.Act.zero)) :: It.row 30 36 (.slice none 0 0 : Value) (Auction.of (Auction.less L (l.getD k Auction.Act.zero).bid.round) (l.getD k Auction.Act.zero).bid.round).length (Auction.bdc (Auction.of (Auction.less L (l.getD k Auction.Act.zero).bid.round) (l.getD k Auction.Act.zero).bid.round)) :: It.blk b 111 [i64 floor, .map (some h)] :: It.mp h (mdel f (l.getD k Auction.Act.zero).bid.round) :: It.blk k0 114 ((Auction.paid B (Auction.win (Auction.of L (l.getD k Auction.Act.zero).bid.round) B (l.getD k Auction.Act.zero).bid.round floor)).map i64) :: It.row 30 36 vx1 (Auction.less L (l.getD k Auction.Act.zero).bid.round).length (Auction.bdc (Auction.less L (l.getD k Auction.Act.zero).bid.round)) :: It.blk b41 81 [i64 floor, vx1] :: It.blk bx 90 [.slice (some ⟨g, 0, none⟩) 64 64] :: It.blk g 3 ((Auction.paid B (Auction.win (Auction.of L (l.getD k Auction.Act.zero).bid.round) B (l.getD k Auction.Act.zero).bid.round floor)).map i64) :: (Auction.rowsOf 30 L D2)) (by repeat (first | exact S1 | exact S0 | apply S2 | apply S3))).weak ⟨rfl, rfl, rfl, rfl, rfl, rfl, rfl, trivial⟩ rfl) | (have hz := hk3; refine ⟨L, f, v, (Bank.put B (l.getD k Auction.Act.zero).bid.who (l.getD k Auction.Act.zero).n).2, vx, ⟨by omega, hL, Bank.put_keep hB _ _, hK2, hC2, fun _ _ => rfl⟩, ?_⟩; have hfin := (H85.front (is := [It.blk b64 85 (Auction.Act.cells (l.getD k Auction.Act.zero)), It.row 30 36 v (Auction.of L (l.getD k Auction.Act.zero).bid.round).length (Auction.bdc (Auction.of L (l.getD k Auction.Act.zero).bid.round)), It.blk b 111 [i64 floor, .map (some h)], It.mp h f, It.blk k0 114 ((Bank.put B (l.getD k Auction.Act.zero).bid.who (l.getD k Auction.Act.zero).n).2.map i64), It.row 30 36 vx L.length (Auction.bdc L), It.blk b41 81 [i64 floor, vx], It.blk bx 90 [.slice (some ⟨g, 0, none⟩) 64 64], It.blk g 3 ((Bank.put B (l.getD k Auction.Act.zero).bid.who (l.getD k Auction.Act.zero).n).2.map i64)]) (.cons (by repeat (first | exact Ph | apply Pt)) (.cons (by repeat (first | exact Ph | apply Pt)) (.cons (by repeat (first | exact Ph | apply Pt)) (.cons (by repeat (first | exact Ph | apply Pt)) (.cons (by repeat (first | exact Ph | apply Pt)) (.cons (by repeat (first | exact Ph | apply Pt)) (.cons (by repeat (first | exact Ph | apply Pt)) (.cons (by repeat (first | exact Ph | apply Pt)) (.cons (by repeat (first | exact Ph | apply Pt)) (.nil _))))))))))); simp only [List.cons_append, List.nil_append] at hfin; exact (hfin.drop (l' := It.blk b64 85 (Auction.Act.cells (l.getD k Auction.Act.zero)) :: It.row 30 36 v (Auction.of L (l.getD k Auction.Act.zero).bid.round).length (Auction.bdc (Auction.of L (l.getD k Auction.Act.zero).bid.round)) :: It.blk b 111 [i64 floor, .map (some h)] :: It.mp h f :: It.blk k0 114 ((Bank.put B (l.getD k Auction.Act.zero).bid.who (l.getD k Auction.Act.zero).n).2.map i64) :: It.row 30 36 vx L.length (Auction.bdc L) :: It.blk b41 81 [i64 floor, vx] :: It.blk bx 90 [.slice (some ⟨g, 0, none⟩) 64 64] :: It.blk g 3 ((Bank.put B (l.getD k Auction.Act.zero).bid.who (l.getD k Auction.Act.zero).n).2.map i64) :: (Auction.rowsOf 30 L D2)) (by repeat (first | exact S1 | exact S0 | apply S2 | apply S3))).weak ⟨rfl, rfl, rfl, rfl, rfl, rfl, rfl, trivial⟩ rfl) | (rw [← Auction.more_of] at H85; refine ⟨(Auction.more floor L (l.getD k Auction.Act.zero).bid (l.getD k Auction.Act.zero).now), f1, v1, B, vx1, ⟨by have := Auction.more_len floor L (l.getD k Auction.Act.zero).bid (l.getD k Auction.Act.zero).now; omega, Auction.more_wf hL wc.bid, hB, hK2.swap hv1 hf1, hC2.swap (fun q hq => Auction.more_other hq), fun q hq => Auction.more_other hq⟩, ?_⟩; have hfin := (H85.front (is := [It.blk b64 85 (Auction.Act.cells (l.getD k Auction.Act.zero)), It.row 30 36 v1 (Auction.of (Auction.more floor L (l.getD k Auction.Act.zero).bid (l.getD k Auction.Act.zero).now) (l.getD k Auction.Act.zero).bid.round).length (Auction.bdc (Auction.of (Auction.more floor L (l.getD k Auction.Act.zero).bid (l.getD k Auction.Act.zero).now) (l.getD k Auction.Act.zero).bid.round)), It.blk b 111 [i64 floor, .map (some h)], It.mp h f1, It.blk k0 114 (B.map i64), It.row 30 36 vx1 (Auction.more floor L (l.getD k Auction.Act.zero).bid (l.getD k Auction.Act.zero).now).length (Auction.bdc (Auction.more floor L (l.getD k Auction.Act.zero).bid (l.getD k Auction.Act.zero).now)), It.blk b41 81 [i64 floor, vx1], It.blk bx 90 [.slice (some ⟨g, 0, none⟩) 64 64], It.blk g 3 (B.map i64)]) (.cons (by repeat (first | exact Ph | apply Pt)) (.cons (by repeat (first | exact Ph | apply Pt)) (.cons (by repeat (first | exact Ph | apply Pt)) (.cons (by repeat (first | exact Ph | apply Pt)) (.cons (by repeat (first | exact Ph | apply Pt)) (.cons (by repeat (first | exact Ph | apply Pt)) (.cons (by repeat (first | exact Ph | apply Pt)) (.cons (by repeat (first | exact Ph | apply Pt)) (.cons (by repeat (first | exact Ph | apply Pt)) (.nil _))))))))))); simp only [List.cons_append, List.nil_append] at hfin; exact (hfin.drop (l' := It.blk b64 85 (Auction.Act.cells (l.getD k Auction.Act.zero)) :: It.row 30 36 v1 (Auction.of (Auction.more floor L (l.getD k Auction.Act.zero).bid (l.getD k Auction.Act.zero).now) (l.getD k Auction.Act.zero).bid.round).length (Auction.bdc (Auction.of (Auction.more floor L (l.getD k Auction.Act.zero).bid (l.getD k Auction.Act.zero).now) (l.getD k Auction.Act.zero).bid.round)) :: It.blk b 111 [i64 floor, .map (some h)] :: It.mp h f1 :: It.blk k0 114 (B.map i64) :: It.row 30 36 vx1 (Auction.more floor L (l.getD k Auction.Act.zero).bid (l.getD k Auction.Act.zero).now).length (Auction.bdc (Auction.more floor L (l.getD k Auction.Act.zero).bid (l.getD k Auction.Act.zero).now)) :: It.blk b41 81 [i64 floor, vx1] :: It.blk bx 90 [.slice (some ⟨g, 0, none⟩) 64 64] :: It.blk g 3 (B.map i64) :: (Auction.rowsOf 30 L D2)) (by repeat (first | exact S1 | exact S0 | apply S2 | apply S3))).weak ⟨rfl, rfl, rfl, rfl, rfl, rfl, rfl, trivial⟩ rfl)
            · (try simp only [decide_eq_true_eq, decide_eq_false_iff_not, Bool.not_eq_true', Bool.not_eq_false', Bool.and_eq_true, Bool.not_eq_true, Bool.not_eq_false] at hc71); (exfalso; exact hc71 hk0)
          · skip
            try simp only [decide_eq_true_eq, decide_eq_false_iff_not, Bool.not_eq_true', Bool.not_eq_false', Bool.and_eq_true, Bool.not_eq_true, Bool.not_eq_false] at hc70
            refine wp_seq ?_
            refine reg ?_
            refine plain (y_eql rfl rfl rfl) rfl rfl rfl H69 ?_
            clear H69; intro a87 H87
            refine plain (y_assign rfl rfl) rfl rfl rfl H87 ?_
            clear H87; intro a88 H88
            refine fin ?_
            refine then_n ?_
            refine cnd H88 rfl (fun hc89 => ?_) (fun hc89 => ?_) -- cond 7
            · skip
              try simp only [decide_eq_true_eq, decide_eq_false_iff_not, Bool.not_eq_true', Bool.not_eq_false', Bool.and_eq_true, Bool.not_eq_true, Bool.not_eq_false] at hc89
              have hk1 := hc89
              refine wp_skip ?_
              refine then_n ?_
              refine cnd H88 rfl (fun hc90 => ?_) (fun hc90 => ?_) -- cond 8
              · skip
                try simp only [decide_eq_true_eq, decide_eq_false_iff_not, Bool.not_eq_true', Bool.not_eq_false', Bool.and_eq_true, Bool.not_eq_true, Bool.not_eq_false] at hc90
                refine wp_seq ?_
                refine hreg [It.blk b64 85 (Auction.Act.cells (l.getD k Auction.Act.zero))] (fun _ h => (h.sub (by first | exact S0 | exact S1 | repeat (first | exact S1 | exact S0 | apply S2 | apply S3)))) (by kernel_rfl) H88 ?_
                clear H88; intro wx91 H91
                refine htake 0 rfl (by kernel_rfl) (y_move rfl rfl) rfl rfl rfl (fun _ h => (h.sub (by first | exact S0 | exact S1 | repeat (first | exact S1 | exact S0 | apply S2 | apply S3)))) H91 ?_
                clear H91; intro a92 H92
                refine htake 1 rfl (by kernel_rfl) (y_fieldB rfl z_field85_3 rfl (by first | (simp only [Nat.zero_add, Nat.add_zero, Nat.reduceAdd]; rfl) | rfl)) rfl rfl rfl (fun _ h => (h.sub (by first | exact S0 | exact S1 | repeat (first | exact S1 | exact S0 | apply S2 | apply S3)))) H92 ?_
                clear H92; intro a93 H93
                refine htake 2 rfl (by kernel_rfl) (y_loadAB rfl z_agg30 z_size30 rfl (by repeat (first | exact Mh | apply Mt)) (q_ld_c7b32_3_36 (by assumption)) (q_len_c4b32 (by assumption))) rfl rfl rfl (fun _ h => (h.sub (by first | exact S0 | exact S1 | repeat (first | exact S1 | exact S0 | apply S2 | apply S3)))) H93 ?_
                clear H93; intro a94 H94
                refine htake 3 rfl (by kernel_rfl) (y_fieldB rfl z_field85_1 rfl (by first | (simp only [Nat.zero_add, Nat.add_zero, Nat.reduceAdd]; rfl) | rfl)) rfl rfl rfl (fun _ h => (h.sub (by first | exact S0 | exact S1 | repeat (first | exact S1 | exact S0 | apply S2 | apply S3)))) H94 ?_
                clear H94; intro a95 H95
                refine htake 4 rfl (by kernel_rfl) (y_loadB rfl z_agg3 rfl (by repeat (first | exact Mh | apply Mt)) q_ix_c7b32_1) rfl rfl rfl (fun _ h => (h.sub (by first | exact S0 | exact S1 | repeat (first | exact S1 | exact S0 | apply S2 | apply S3)))) H95 ?_
                clear H95; intro a96 H96
                refine htake 6 rfl (by kernel_rfl) (y_move rfl rfl) rfl rfl rfl (fun _ h => (h.sub (by first | exact S0 | exact S1 | repeat (first | exact S1 | exact S0 | apply S2 | apply S3)))) H96 ?_
                clear H96; intro a97 H97
                refine htake 7 rfl (by kernel_rfl) (y_fieldB rfl z_field85_3 rfl (by first | (simp only [Nat.zero_add, Nat.add_zero, Nat.reduceAdd]; rfl) | rfl)) rfl rfl rfl (fun _ h => (h.sub (by first | exact S0 | exact S1 | repeat (first | exact S1 | exact S0 | apply S2 | apply S3)))) H97 ?_
                clear H97; intro a98 H98
                refine htake 8 rfl (by kernel_rfl) (y_loadAB rfl z_agg30 z_size30 rfl (by repeat (first | exact Mh | apply Mt)) (q_ld_c7b32_3_36 (by assumption)) (q_len_c4b32 (by assumption))) rfl rfl rfl (fun _ h => (h.sub (by first | exact S0 | exact S1 | repeat (first | exact S1 | exact S0 | apply S2 | apply S3)))) H98 ?_
                clear H98; intro a99 H99
                refine htake 9 rfl (by kernel_rfl) (y_fieldB rfl z_field85_1 rfl (by first | (simp only [Nat.zero_add, Nat.add_zero, Nat.reduceAdd]; rfl) | rfl)) rfl rfl rfl (fun _ h => (h.sub (by first | exact S0 | exact S1 | repeat (first | exact S1 | exact S0 | apply S2 | apply S3)))) H99 ?_
                clear H99; intro a100 H100
                refine htake 10 rfl (by kernel_rfl) (y_loadB rfl z_agg3 rfl (by repeat (first | exact Mh | apply Mt)) q_ix_c7b32_1) rfl rfl rfl (fun _ h => (h.sub (by first | exact S0 | exact S1 | repeat (first | exact S1 | exact S0 | apply S2 | apply S3)))) H100 ?_
                clear H100; intro a101 H101
                refine hgo 5 rfl (by kernel_rfl) ?_
                refine st_callk2 (is := [It.blk b 111 [i64 floor, .map (some h)], It.mp h f, It.row 30 36 v (Auction.of L (l.getD k Auction.Act.zero).bid.round).length (Auction.bdc (Auction.of L (l.getD k Auction.Act.zero).bid.round))]) (enters_call rfl z_call34 rfl) rfl rfl rfl H101 (.cons (by repeat (first | exact Ph | apply Pt)) (.cons (by repeat (first | exact Ph | apply Pt)) (.cons (by repeat (first | exact Ph | apply Pt)) (.nil _)))) (fun hs => abid floor (Auction.of L (l.getD k Auction.Act.zero).bid.round) hof hofl f v b h (l.getD k Auction.Act.zero).bid wc.bid (l.getD k Auction.Act.zero).now hkd.1 hs (hG.frm H101.sep.frm (by simp)) (fps_new H101.sep (.cons (by repeat (first | exact Ph | apply Pt)) (.cons (by repeat (first | exact Ph | apply Pt)) (.cons (by repeat (first | exact Ph | apply Pt)) (.nil _)))) hG (by decide))) ?_
                clear H101; intro v102 l102 a102 wx102 hf102 H102
                obtain ⟨rfl, f1, v1, hv1, hf1, rfl⟩ := hf102
                simp only [List.cons_append, List.nil_append] at H102
                refine hfinA H102.sep ?_
                refine hgo 11 rfl (by kernel_rfl) ?_
                refine st_callk2 (is := [It.row 30 36 vx L.length (Auction.bdc L), It.blk b41 81 [i64 floor, vx]]) (enters_call rfl z_call38 rfl) rfl rfl rfl H102 (.cons (by repeat (first | exact Ph | apply Pt)) (.cons (by repeat (first | exact Ph | apply Pt)) (.nil _))) (fun hs => xbid floor L hL hLl b41 vx (l.getD k Auction.Act.zero).bid wc.bid (l.getD k Auction.Act.zero).now hs) ?_
                clear H102; intro v103 l103 a103 wx103 hf103 H103
                obtain ⟨rfl, vx1, rfl⟩ := hf103
                simp only [List.cons_append, List.nil_append] at H103
                refine hfinA H103.sep ?_
                refine htake 12 rfl (by kernel_rfl) (y_neq rfl rfl rfl) rfl rfl rfl (fun _ h => (h.sub (by first | exact S0 | exact S1 | repeat (first | exact S1 | exact S0 | apply S2 | apply S3)))) H103 ?_
                clear H103; intro a104 H104
                refine hdone (by kernel_rfl) ?_
                refine then_n ?_
                refine cnd H104 rfl (fun hc105 => ?_) (fun hc105 => ?_) -- cond 9
                · (try simp only [decide_eq_true_eq, decide_eq_false_iff_not, Bool.not_eq_true', Bool.not_eq_false', Bool.and_eq_true, Bool.not_eq_true, Bool.not_eq_false] at hc105); (exfalso; first | exact hc105 rfl | exact hc105 trivial | simp at hc105)
                · skip
                  try simp only [decide_eq_true_eq, decide_eq_false_iff_not, Bool.not_eq_true', Bool.not_eq_false', Bool.and_eq_true, Bool.not_eq_true, Bool.not_eq_false] at hc105
                  refine wp_skip ?_
                  refine inb_n ?_
                  refine cut_n ?_
                  first | (have hz := hk4; replace H104 := H104.nilRow 30 36; rw [show It.row 30 36 (.slice none 0 0) 0 [] = It.row 30 36 (.slice none 0 0) (Auction.of (Auction.less L (l.getD k Auction.Act.zero).bid.round) (l.getD k Auction.Act.zero).bid.round).length (Auction.bdc (Auction.of (Auction.less L (l.getD k Auction.Act.zero).bid.round) (l.getD k Auction.Act.zero).bid.round)) from by rw [Auction.less_of]; rfl] at H104; refine ⟨(Auction.less L (l.getD k Auction.Act.zero).bid.round), (mdel f (l.getD k Auction.Act.zero).bid.round), (.slice none 0 0 : Value), (Auction.paid B (Auction.win (Auction.of L (l.getD k Auction.Act.zero).bid.round) B (l.getD k Auction.Act.zero).bid.round floor)), vx1, ⟨by have := Auction.less_len L (l.getD k Auction.Act.zero).bid.round; omega, Auction.less_wf hL _, Auction.paid_ok hB _, hK2.swap Auction.mdel_at (fun q hq => Auction.mdel_ne hq), hC2.swap (fun q hq => Auction.less_other hq), fun q hq => Auction.less_other hq⟩, ?_⟩; have hfin := (H104.front (is := [It.blk b64 85 (Auction.Act.cells (l.getD k Auction.Act.zero)), It.row 30 36 (.slice none 0 0 : Value) (Auction.of (Auction.less L (l.getD k Auction.Act.zero).bid.round) (l.getD k Auction.Act.zero).bid.round).length (Auction.bdc (Auction.of (Auction.less L (l.getD k Auction.Act.zero).bid.round) (l.getD k Auction.Act.zero).bid.round)), It.blk b 111 [i64 floor, .map (some h)], It.mp h (mdel f (l.getD k Auction.Act.zero).bid.round), It.blk k0 114 ((Auction.paid B (Auction.win (Auction.of L (l.getD k Auction.Act.zero).bid.round) B (l.getD k Auction.Act.zero).bid.round floor)).map i64), It.row 30 36 vx1 (Auction.less L (l.getD k Auction.Act.zero).bid.round).length (Auction.bdc (Auction.less L (l.getD k Auction.Act.zero).bid.round)), It.blk b41 81 [i64 floor, vx1], It.blk bx 90 [.slice (some ⟨g, 0, none⟩) 64 64], It.blk g 3 ((Auction.paid B (Auction.win (Auction.of L (l.getD k Auction.Act.zero).bid.round) B (l.getD k Auction.Act.zero).bid.round floor)).map i64)]) (.cons (by repeat (first | exact Ph | apply Pt)) (.cons (by repeat (first | exact Ph | apply Pt)) (.cons (by repeat (first | exact Ph | apply Pt)) (.cons (by repeat (first | exact Ph | apply Pt)) (.cons (by repeat (first | exact Ph | apply Pt)) (.cons (by repeat (first | exact Ph | apply Pt)) (.cons (by repeat (first | exact Ph | apply Pt)) (.cons (by repeat (first | exact Ph | apply Pt)) (.cons (by repeat (first | exact Ph | apply Pt)) (.nil _))))))))))); simp only [List.cons_append, List.nil_append] at hfin; exact (hfin.drop (l' := It.blk b64 85 (Auction.Act.cells (l.getD k Auction.Act.zero)) :: It.row 30 36 (.slice none 0 0 : Value) (Auction.of (Auction.less L (l.getD k Auction.Act.zero).bid.round) (l.getD k Auction.Act.zero).bid.round).length (Auction.bdc (Auction.of (Auction.less L (l.getD k Auction.Act.zero).bid.round) (l.getD k Auction.Act.zero).bid.round)) :: It.blk b 111 [i64 floor, .map (some h)] :: It.mp h (mdel f (l.getD k Auction.Act.zero).bid.round) :: It.blk k0 114 ((Auction.paid B (Auction.win (Auction.of L (l.getD k Auction.Act.zero).bid.round) B (l.getD k Auction.Act.zero).bid.round floor)).map i64) :: It.row 30 36 vx1 (Auction.less L (l.getD k Auction.Act.zero).bid.round).length (Auction.bdc (Auction.less L (l.getD k Auction.Act.zero).bid.round)) :: It.blk b41 81 [i64 floor, vx1] :: It.blk bx 90 [.slice (some ⟨g, 0, none⟩) 64 64] :: It.blk g 3 ((Auction.paid B (Auction.win (Auction.of L (l.getD k Auction.Act.zero).bid.round) B (l.getD k Auction.Act.zero).bid.round floor)).map i64) :: (Auction.rowsOf 30 L D2)) (by repeat (first | exact S1 | exact S0 | apply S2 | apply S3))).weak ⟨rfl, rfl, rfl, rfl, rfl, rfl, rfl, trivial⟩ rfl) | (have hz := hk3; refine ⟨L, f, v, (Bank.put B (l.getD k Auction.Act.zero).bid.who (l.getD k Auction.Act.zero).n).2, vx, ⟨by omega, hL, Bank.put_keep hB _ _, hK2, hC2, fun _ _ => rfl⟩, ?_⟩; have hfin := (H104.front (is := [It.blk b64 85 (Auction.Act.cells (l.getD k Auction.Act.zero)), It.row 30 36 v (Auction.of L (l.getD k Auction.Act.zero).bid.round).length (Auction.bdc (Auction.of L (l.getD k Auction.Act.zero).bid.round)), It.blk b 111 [i64 floor, .map (some h)], It.mp h f, It.blk k0 114 ((Bank.put B (l.getD k Auction.Act.zero).bid.who (l.getD k Auction.Act.zero).n).2.map i64), It.row 30 36 vx L.length (Auction.bdc L), It.blk b41 81 [i64 floor, vx], It.blk bx 90 [.slice (some ⟨g, 0, none⟩) 64 64], It.blk g 3 ((Bank.put B (l.getD k Auction.Act.zero).bid.who (l.getD k Auction.Act.zero).n).2.map i64)]) (.cons (by repeat (first | exact Ph | apply Pt)) (.cons (by repeat (first | exact Ph | apply Pt)) (.cons (by repeat (first | exact Ph | apply Pt)) (.cons (by repeat (first | exact Ph | apply Pt)) (.cons (by repeat (first | exact Ph | apply Pt)) (.cons (by repeat (first | exact Ph | apply Pt)) (.cons (by repeat (first | exact Ph | apply Pt)) (.cons (by repeat (first | exact Ph | apply Pt)) (.cons (by repeat (first | exact Ph | apply Pt)) (.nil _))))))))))); simp only [List.cons_append, List.nil_append] at hfin; exact (hfin.drop (l' := It.blk b64 85 (Auction.Act.cells (l.getD k Auction.Act.zero)) :: It.row 30 36 v (Auction.of L (l.getD k Auction.Act.zero).bid.round).length (Auction.bdc (Auction.of L (l.getD k Auction.Act.zero).bid.round)) :: It.blk b 111 [i64 floor, .map (some h)] :: It.mp h f :: It.blk k0 114 ((Bank.put B (l.getD k Auction.Act.zero).bid.who (l.getD k Auction.Act.zero).n).2.map i64) :: It.row 30 36 vx L.length (Auction.bdc L) :: It.blk b41 81 [i64 floor, vx] :: It.blk bx 90 [.slice (some ⟨g, 0, none⟩) 64 64] :: It.blk g 3 ((Bank.put B (l.getD k Auction.Act.zero).bid.who (l.getD k Auction.Act.zero).n).2.map i64) :: (Auction.rowsOf 30 L D2)) (by repeat (first | exact S1 | exact S0 | apply S2 | apply S3))).weak ⟨rfl, rfl, rfl, rfl, rfl, rfl, rfl, trivial⟩ rfl) | (rw [← Auction.more_of] at H104; refine ⟨(Auction.more floor L (l.getD k Auction.Act.zero).bid (l.getD k Auction.Act.zero).now), f1, v1, B, vx1, ⟨by have := Auction.more_len floor L (l.getD k Auction.Act.zero).bid (l.getD k Auction.Act.zero).now; omega, Auction.more_wf hL wc.bid, hB, hK2.swap hv1 hf1, hC2.swap (fun q hq => Auction.more_other hq), fun q hq => Auction.more_other hq⟩, ?_⟩; have hfin := (H104.front (is := [It.blk b64 85 (Auction.Act.cells (l.getD k Auction.Act.zero)), It.row 30 36 v1 (Auction.of (Auction.more floor L (l.getD k Auction.Act.zero).bid (l.getD k Auction.Act.zero).now) (l.getD k Auction.Act.zero).bid.round).length (Auction.bdc (Auction.of (Auction.more floor L (l.getD k Auction.Act.zero).bid (l.getD k Auction.Act.zero).now) (l.getD k Auction.Act.zero).bid.round)), It.blk b 111 [i64 floor, .map (some h)], It.mp h f1, It.blk k0 114 (B.map i64), It.row 30 36 vx1 (Auction.more floor L (l.getD k Auction.Act.zero).bid (l.getD k Auction.Act.zero).now).length (Auction.bdc (Auction.more floor L (l.getD k Auction.Act.zero).bid (l.getD k Auction.Act.zero).now)), It.blk b41 81 [i64 floor, vx1], It.blk bx 90 [.slice (some ⟨g, 0, none⟩) 64 64], It.blk g 3 (B.map i64)]) (.cons (by repeat (first | exact Ph | apply Pt)) (.cons (by repeat (first | exact Ph | apply Pt)) (.cons (by repeat (first | exact Ph | apply Pt)) (.cons (by repeat (first | exact Ph | apply Pt)) (.cons (by repeat (first | exact Ph | apply Pt)) (.cons (by repeat (first | exact Ph | apply Pt)) (.cons (by repeat (first | exact Ph | apply Pt)) (.cons (by repeat (first | exact Ph | apply Pt)) (.cons (by repeat (first | exact Ph | apply Pt)) (.nil _))))))))))); simp only [List.cons_append, List.nil_append] at hfin; exact (hfin.drop (l' := It.blk b64 85 (Auction.Act.cells (l.getD k Auction.Act.zero)) :: It.row 30 36 v1 (Auction.of (Auction.more floor L (l.getD k Auction.Act.zero).bid (l.getD k Auction.Act.zero).now) (l.getD k Auction.Act.zero).bid.round).length (Auction.bdc (Auction.of (Auction.more floor L (l.getD k Auction.Act.zero).bid (l.getD k Auction.Act.zero).now) (l.getD k Auction.Act.zero).bid.round)) :: It.blk b 111 [i64 floor, .map (some h)] :: It.mp h f1 :: It.blk k0 114 (B.map i64) :: It.row 30 36 vx1 (Auction.more floor L (l.getD k Auction.Act.zero).bid (l.getD k Auction.Act.zero).now).length (Auction.bdc (Auction.more floor L (l.getD k Auction.Act.zero).bid (l.getD k Auction.Act.zero).now)) :: It.blk b41 81 [i64 floor, vx1] :: It.blk bx 90 [.slice (some ⟨g, 0, none⟩) 64 64] :: It.blk g 3 (B.map i64) :: (Auction.rowsOf 30 L D2)) (by repeat (first | exact S1 | exact S0 | apply S2 | apply S3))).weak ⟨rfl, rfl, rfl, rfl, rfl, rfl, rfl, trivial⟩ rfl)
              · (try simp only [decide_eq_true_eq, decide_eq_false_iff_not, Bool.not_eq_true', Bool.not_eq_false', Bool.and_eq_true, Bool.not_eq_true, Bool.not_eq_false] at hc90); (exfalso; exact hc90 hk1)
            · skip
              try simp only [decide_eq_true_eq, decide_eq_false_iff_not, Bool.not_eq_true', Bool.not_eq_false', Bool.and_eq_true, Bool.not_eq_true, Bool.not_eq_false] at hc89
              refine reg ?_
              refine plain (y_eql rfl rfl rfl) rfl rfl rfl H88 ?_
              clear H88; intro a106 H106
              refine plain (y_assign rfl rfl) rfl rfl rfl H106 ?_
              clear H106; intro a107 H107
              refine fin ?_
              refine then_n ?_
              refine cnd H107 rfl (fun hc108 => ?_) (fun hc108 => ?_) -- cond 10
              · skip
                try simp only [decide_eq_true_eq, decide_eq_false_iff_not, Bool.not_eq_true', Bool.not_eq_false', Bool.and_eq_true, Bool.not_eq_true, Bool.not_eq_false] at hc108
                refine wp_seq ?_
                refine hreg [It.blk b64 85 (Auction.Act.cells (l.getD k Auction.Act.zero))] (fun _ h => (h.sub (by first | exact S0 | exact S1 | repeat (first | exact S1 | exact S0 | apply S2 | apply S3)))) (by kernel_rfl) H107 ?_
                clear H107; intro wx109 H109
                refine htake 0 rfl (by kernel_rfl) (y_move rfl rfl) rfl rfl rfl (fun _ h => (h.sub (by first | exact S0 | exact S1 | repeat (first | exact S1 | exact S0 | apply S2 | apply S3)))) H109 ?_
                clear H109; intro a110 H110
                refine htake 1 rfl (by kernel_rfl) (y_fieldB rfl z_field85_3 rfl (by first | (simp only [Nat.zero_add, Nat.add_zero, Nat.reduceAdd]; rfl) | rfl)) rfl rfl rfl (fun _ h => (h.sub (by first | exact S0 | exact S1 | repeat (first | exact S1 | exact S0 | apply S2 | apply S3)))) H110 ?_
                clear H110; intro a111 H111
                refine htake 2 rfl (by kernel_rfl) (y_loadAB rfl z_agg30 z_size30 rfl (by repeat (first | exact Mh | apply Mt)) (q_ld_c7b32_3_36 (by assumption)) (q_len_c4b32 (by assumption))) rfl rfl rfl (fun _ h => (h.sub (by first | exact S0 | exact S1 | repeat (first | exact S1 | exact S0 | apply S2 | apply S3)))) H111 ?_
                clear H111; intro a112 H112
                refine htake 3 rfl (by kernel_rfl) (y_fieldB rfl z_field85_1 rfl (by first | (simp only [Nat.zero_add, Nat.add_zero, Nat.reduceAdd]; rfl) | rfl)) rfl rfl rfl (fun _ h => (h.sub (by first | exact S0 | exact S1 | repeat (first | exact S1 | exact S0 | apply S2 | apply S3)))) H112 ?_
                clear H112; intro a113 H113
                refine htake 4 rfl (by kernel_rfl) (y_loadB rfl z_agg3 rfl (by repeat (first | exact Mh | apply Mt)) q_ix_c7b32_1) rfl rfl rfl (fun _ h => (h.sub (by first | exact S0 | exact S1 | repeat (first | exact S1 | exact S0 | apply S2 | apply S3)))) H113 ?_
                clear H113; intro a114 H114
                refine htake 6 rfl (by kernel_rfl) (y_move rfl rfl) rfl rfl rfl (fun _ h => (h.sub (by first | exact S0 | exact S1 | repeat (first | exact S1 | exact S0 | apply S2 | apply S3)))) H114 ?_
                clear H114; intro a115 H115
                refine htake 7 rfl (by kernel_rfl) (y_fieldB rfl z_field85_3 rfl (by first | (simp only [Nat.zero_add, Nat.add_zero, Nat.reduceAdd]; rfl) | rfl)) rfl rfl rfl (fun _ h => (h.sub (by first | exact S0 | exact S1 | repeat (first | exact S1 | exact S0 | apply S2 | apply S3)))) H115 ?_
                clear H115; intro a116 H116
                refine htake 8 rfl (by kernel_rfl) (y_loadAB rfl z_agg30 z_size30 rfl (by repeat (first | exact Mh | apply Mt)) (q_ld_c7b32_3_36 (by assumption)) (q_len_c4b32 (by assumption))) rfl rfl rfl (fun _ h => (h.sub (by first | exact S0 | exact S1 | repeat (first | exact S1 | exact S0 | apply S2 | apply S3)))) H116 ?_
                clear H116; intro a117 H117
                refine htake 9 rfl (by kernel_rfl) (y_fieldB rfl z_field85_1 rfl (by first | (simp only [Nat.zero_add, Nat.add_zero, Nat.reduceAdd]; rfl) | rfl)) rfl rfl rfl (fun _ h => (h.sub (by first | exact S0 | exact S1 | repeat (first | exact S1 | exact S0 | apply S2 | apply S3)))) H117 ?_
                clear H117; intro a118 H118
                refine htake 10 rfl (by kernel_rfl) (y_loadB rfl z_agg3 rfl (by repeat (first | exact Mh | apply Mt)) q_ix_c7b32_1) rfl rfl rfl (fun _ h => (h.sub (by first | exact S0 | exact S1 | repeat (first | exact S1 | exact S0 | apply S2 | apply S3)))) H118 ?_
                clear H118; intro a119 H119
                refine hgo 5 rfl (by kernel_rfl) ?_
                refine st_callk2 (is := [It.blk b 111 [i64 floor, .map (some h)], It.mp h f, It.row 30 36 v (Auction.of L (l.getD k Auction.Act.zero).bid.round).length (Auction.bdc (Auction.of L (l.getD k Auction.Act.zero).bid.round))]) (enters_call rfl z_call34 rfl) rfl rfl rfl H119 (.cons (by repeat (first | exact Ph | apply Pt)) (.cons (by repeat (first | exact Ph | apply Pt)) (.cons (by repeat (first | exact Ph | apply Pt)) (.nil _)))) (fun hs => abid floor (Auction.of L (l.getD k Auction.Act.zero).bid.round) hof hofl f v b h (l.getD k Auction.Act.zero).bid wc.bid (l.getD k Auction.Act.zero).now hkd.1 hs (hG.frm H119.sep.frm (by simp)) (fps_new H119.sep (.cons (by repeat (first | exact Ph | apply Pt)) (.cons (by repeat (first | exact Ph | apply Pt)) (.cons (by repeat (first | exact Ph | apply Pt)) (.nil _)))) hG (by decide))) ?_
                clear H119; intro v120 l120 a120 wx120 hf120 H120
                obtain ⟨rfl, f1, v1, hv1, hf1, rfl⟩ := hf120
                simp only [List.cons_append, List.nil_append] at H120
                refine hfinA H120.sep ?_
                refine hgo 11 rfl (by kernel_rfl) ?_
                refine st_callk2 (is := [It.row 30 36 vx L.length (Auction.bdc L), It.blk b41 81 [i64 floor, vx]]) (enters_call rfl z_call38 rfl) rfl rfl rfl H120 (.cons (by repeat (first | exact Ph | apply Pt)) (.cons (by repeat (first | exact Ph | apply Pt)) (.nil _))) (fun hs => xbid floor L hL hLl b41 vx (l.getD k Auction.Act.zero).bid wc.bid (l.getD k Auction.Act.zero).now hs) ?_
                clear H120; intro v121 l121 a121 wx121 hf121 H121
                obtain ⟨rfl, vx1, rfl⟩ := hf121
                simp only [List.cons_append, List.nil_append] at H121
                refine hfinA H121.sep ?_
                refine htake 12 rfl (by kernel_rfl) (y_neq rfl rfl rfl) rfl rfl rfl (fun _ h => (h.sub (by first | exact S0 | exact S1 | repeat (first | exact S1 | exact S0 | apply S2 | apply S3)))) H121 ?_
                clear H121; intro a122 H122
                refine hdone (by kernel_rfl) ?_
                refine then_n ?_
                refine cnd H122 rfl (fun hc123 => ?_) (fun hc123 => ?_) -- cond 11
                · (try simp only [decide_eq_true_eq, decide_eq_false_iff_not, Bool.not_eq_true', Bool.not_eq_false', Bool.and_eq_true, Bool.not_eq_true, Bool.not_eq_false] at hc123); (exfalso; first | exact hc123 rfl | exact hc123 trivial | simp at hc123)
                · skip
                  try simp only [decide_eq_true_eq, decide_eq_false_iff_not, Bool.not_eq_true', Bool.not_eq_false', Bool.and_eq_true, Bool.not_eq_true, Bool.not_eq_false] at hc123
                  refine wp_skip ?_
                  refine inb_n ?_
                  refine cut_n ?_
                  first | (have hz := hk4; replace H122 := H122.nilRow 30 36; rw [show It.row 30 36 (.slice none 0 0) 0 [] = It.row 30 36 (.slice none 0 0) (Auction.of (Auction.less L (l.getD k Auction.Act.zero).bid.round) (l.getD k Auction.Act.zero).bid.round).length (Auction.bdc (Auction.of (Auction.less L (l.getD k Auction.Act.zero).bid.round) (l.getD k Auction.Act.zero).bid.round)) from by rw [Auction.less_of]; rfl] at H122; refine ⟨(Auction.less L (l.getD k Auction.Act.zero).bid.round), (mdel f (l.getD k Auction.Act.zero).bid.round), (.slice none 0 0 : Value), (Auction.paid B (Auction.win (Auction.of L (l.getD k Auction.Act.zero).bid.round) B (l.getD k Auction.Act.zero).bid.round floor)), vx1, ⟨by have := Auction.less_len L (l.getD k Auction.Act.zero).bid.round; omega, Auction.less_wf hL _, Auction.paid_ok hB _, hK2.swap Auction.mdel_at (fun q hq => Auction.mdel_ne hq), hC2.swap (fun q hq => Auction.less_other hq), fun q hq => Auction.less_other hq⟩, ?_⟩; have hfin := (H122.front (is := [It.blk b64 85 (Auction.Act.cells (l.getD k Auction.Act.zero)), It.row 30 36 (.slice none 0 0 : Value) (Auction.of (Auction.less L (l.getD k Auction.Act.zero).bid.round) (l.getD k Auction.Act.zero).bid.round).length (Auction.bdc (Auction.of (Auction.less L (l.getD k Auction.Act.zero).bid.round) (l.getD k Auction.Act.zero).bid.round)), It.blk b 111 [i64 floor, .map (some h)], It.mp h (mdel f (l.getD k Auction.Act.zero).bid.round), It.blk k0 114 ((Auction.paid B (Auction.win (Auction.of L (l.getD k Auction.Act.zero).bid.round) B (l.getD k Auction.Act.zero).bid.round floor)).map i64), It.row 30 36 vx1 (Auction.less L (l.getD k Auction.Act.zero).bid.round).length (Auction.bdc (Auction.less L (l.getD k Auction.Act.zero).bid.round)), It.blk b41 81 [i64 floor, vx1], It.blk bx 90 [.slice (some ⟨g, 0, none⟩) 64 64], It.blk g 3 ((Auction.paid B (Auction.win (Auction.of L (l.getD k Auction.Act.zero).bid.round) B (l.getD k Auction.Act.zero).bid.round floor)).map i64)]) (.cons (by repeat (first | exact Ph | apply Pt)) (.cons (by repeat (first | exact Ph | apply Pt)) (.cons (by repeat (first | exact Ph | apply Pt)) (.cons (by repeat (first | exact Ph | apply Pt)) (.cons (by repeat (first | exact Ph | apply Pt)) (.cons (by repeat (first | exact Ph | apply Pt)) (.cons (by repeat (first | exact Ph | apply Pt)) (.cons (by repeat (first | exact Ph | apply Pt)) (.cons (by repeat (first | exact Ph | apply Pt)) (.nil _))))))))))); simp only [List.cons_append, List.nil_append] at hfin; exact (hfin.drop (l' := It.blk b64 85 (Auction.Act.cells (l.getD k Auction.Act.zero)) :: It.row 30 36 (.slice none 0 0 : Value) (Auction.of (Auction.less L (l.getD k Auction.Act.zero).bid.round) (l.getD k Auction.Act.zero).bid.round).length (Auction.bdc (Auction.of (Auction.less L (l.getD k Auction.Act.zero).bid.round) (l.getD k Auction.Act.zero).bid.round)) :: It.blk b 111 [i64 floor, .map (some h)] :: It.mp h (mdel f (l.getD k Auction.Act.zero).bid.round) :: It.blk k0 114 ((Auction.paid B (Auction.win (Auction.of L (l.getD k Auction.Act.zero).bid.round) B (l.getD k Auction.Act.zero).bid.round floor)).map i64) :: It.row 30 36 vx1 (Auction.less L (l.getD k Auction.Act.zero).bid.round).length (Auction.bdc (Auction.less L (l.getD k Auction.Act.zero).bid.round)) :: It.blk b41 81 [i64 floor, vx1] :: It.blk bx 90 [.slice (some ⟨g, 0, none⟩) 64 64] :: It.blk g 3 ((Auction.paid B (Auction.win (Auction.of L (l.getD k Auction.Act.zero).bid.round) B (l.getD k Auction.Act.zero).bid.round floor)).map i64) :: (Auction.rowsOf 30 L D2)) (by repeat (first | exact S1 | exact S0 | apply S2 | apply S3))).weak ⟨rfl, rfl, rfl, rfl, rfl, rfl, rfl, trivial⟩ rfl) | (have hz := hk3; refine ⟨L, f, v, (Bank.put B (l.getD k Auction.Act.zero).bid.who (l.getD k Auction.Act.zero).n).2, vx, ⟨by omega, hL, Bank.put_keep hB _ _, hK2, hC2, fun _ _ => rfl⟩, ?_⟩; have hfin := (H122.front (is := [It.blk b64 85 (Auction.Act.cells (l.getD k Auction.Act.zero)), It.row 30 36 v (Auction.of L (l.getD k Auction.Act.zero).bid.round).length (Auction.bdc (Auction.of L (l.getD k Auction.Act.zero).bid.round)), It.blk b 111 [i64 floor, .map (some h)], It.mp h f, It.blk k0 114 ((Bank.put B (l.getD k Auction.Act.zero).bid.who (l.getD k Auction.Act.zero).n).2.map i64), It.row 30 36 vx L.length (Auction.bdc L), It.blk b41 81 [i64 floor, vx], It.blk bx 90 [.slice (some ⟨g, 0, none⟩) 64 64], It.blk g 3 ((Bank.put B (l.getD k Auction.Act.zero).bid.who (l.getD k Auction.Act.zero).n).2.map i64)]) (.cons (by repeat (first | exact Ph | apply Pt)) (.cons (by repeat (first | exact Ph | apply Pt)) (.cons (by repeat (first | exact Ph | apply Pt)) (.cons (by repeat (first | exact Ph | apply Pt)) (.cons (by repeat (first | exact Ph | apply Pt)) (.cons (by repeat (first | exact Ph | apply Pt)) (.cons (by repeat (first | exact Ph | apply Pt)) (.cons (by repeat (first | exact Ph | apply Pt)) (.cons (by repeat (first | exact Ph | apply Pt)) (.nil _))))))))))); simp only [List.cons_append, List.nil_append] at hfin; exact (hfin.drop (l' := It.blk b64 85 (Auction.Act.cells (l.getD k Auction.Act.zero)) :: It.row 30 36 v (Auction.of L (l.getD k Auction.Act.zero).bid.round).length (Auction.bdc (Auction.of L (l.getD k Auction.Act.zero).bid.round)) :: It.blk b 111 [i64 floor, .map (some h)] :: It.mp h f :: It.blk k0 114 ((Bank.put B (l.getD k Auction.Act.zero).bid.who (l.getD k Auction.Act.zero).n).2.map i64) :: It.row 30 36 vx L.length (Auction.bdc L) :: It.blk b41 81 [i64 floor, vx] :: It.blk bx 90 [.slice (some ⟨g, 0, none⟩) 64 64] :: It.blk g 3 ((Bank.put B (l.getD k Auction.Act.zero).bid.who (l.getD k Auction.Act.zero).n).2.map i64) :: (Auction.rowsOf 30 L D2)) (by repeat (first | exact S1 | exact S0 | apply S2 | apply S3))).weak ⟨rfl, rfl, rfl, rfl, rfl, rfl, rfl, trivial⟩ rfl) | (rw [← Auction.more_of] at H122; refine ⟨(Auction.more floor L (l.getD k Auction.Act.zero).bid (l.getD k Auction.Act.zero).now), f1, v1, B, vx1, ⟨by have := Auction.more_len floor L (l.getD k Auction.Act.zero).bid (l.getD k Auction.Act.zero).now; omega, Auction.more_wf hL wc.bid, hB, hK2.swap hv1 hf1, hC2.swap (fun q hq => Auction.more_other hq), fun q hq => Auction.more_other hq⟩, ?_⟩; have hfin := (H122.front (is := [It.blk b64 85 (Auction.Act.cells (l.getD k Auction.Act.zero)), It.row 30 36 v1 (Auction.of (Auction.more floor L (l.getD k Auction.Act.zero).bid (l.getD k Auction.Act.zero).now) (l.getD k Auction.Act.zero).bid.round).length (Auction.bdc (Auction.of (Auction.more floor L (l.getD k Auction.Act.zero).bid (l.getD k Auction.Act.zero).now) (l.getD k Auction.Act.zero).bid.round)), It.blk b 111 [i64 floor, .map (some h)], It.mp h f1, It.blk k0 114 (B.map i64), It.row 30 36 vx1 (Auction.more floor L (l.getD k Auction.Act.zero).bid (l.getD k Auction.Act.zero).now).length (Auction.bdc (Auction.more floor L (l.getD k Auction.Act.zero).bid (l.getD k Auction.Act.zero).now)), It.blk b41 81 [i64 floor, vx1], It.blk bx 90 [.slice (some ⟨g, 0, none⟩) 64 64], It.blk g 3 (B.map i64)]) (.cons (by repeat (first | exact Ph | apply Pt)) (.cons (by repeat (first | exact Ph | apply Pt)) (.cons (by repeat (first | exact Ph | apply Pt)) (.cons (by repeat (first | exact Ph | apply Pt)) (.cons (by repeat (first | exact Ph | apply Pt)) (.cons (by repeat (first | exact Ph | apply Pt)) (.cons (by repeat (first | exact Ph | apply Pt)) (.cons (by repeat (first | exact Ph | apply Pt)) (.cons (by repeat (first | exact Ph | apply Pt)) (.nil _))))))))))); simp only [List.cons_append, List.nil_append] at hfin; exact (hfin.drop (l' := It.blk b64 85 (Auction.Act.cells (l.getD k Auction.Act.zero)) :: It.row 30 36 v1 (Auction.of (Auction.more floor L (l.getD k Auction.Act.zero).bid (l.getD k Auction.Act.zero).now) (l.getD k Auction.Act.zero).bid.round).length (Auction.bdc (Auction.of (Auction.more floor L (l.getD k Auction.Act.zero).bid (l.getD k Auction.Act.zero).now) (l.getD k Auction.Act.zero).bid.round)) :: It.blk b 111 [i64 floor, .map (some h)] :: It.mp h f1 :: It.blk k0 114 (B.map i64) :: It.row 30 36 vx1 (Auction.more floor L (l.getD k Auction.Act.zero).bid (l.getD k Auction.Act.zero).now).length (Auction.bdc (Auction.more floor L (l.getD k Auction.Act.zero).bid (l.getD k Auction.Act.zero).now)) :: It.blk b41 81 [i64 floor, vx1] :: It.blk bx 90 [.slice (some ⟨g, 0, none⟩) 64 64] :: It.blk g 3 (B.map i64) :: (Auction.rowsOf 30 L D2)) (by repeat (first | exact S1 | exact S0 | apply S2 | apply S3))).weak ⟨rfl, rfl, rfl, rfl, rfl, rfl, rfl, trivial⟩ rfl)
              · skip
                try simp only [decide_eq_true_eq, decide_eq_false_iff_not, Bool.not_eq_true', Bool.not_eq_false', Bool.and_eq_true, Bool.not_eq_true, Bool.not_eq_false] at hc108
                refine wp_seq ?_
                refine reg ?_
                refine plain (y_eql rfl rfl rfl) rfl rfl rfl H107 ?_
                clear H107; intro a124 H124
                refine plain (y_assign rfl rfl) rfl rfl rfl H124 ?_
                clear H124; intro a125 H125
                refine fin ?_
                refine then_n ?_
                refine cnd H125 rfl (fun hc126 => ?_) (fun hc126 => ?_) -- cond 12
                · skip
                  try simp only [decide_eq_true_eq, decide_eq_false_iff_not, Bool.not_eq_true', Bool.not_eq_false', Bool.and_eq_true, Bool.not_eq_true, Bool.not_eq_false] at hc126
                  have hk3 := hc126
                  refine wp_seq ?_
                  refine reg ?_
                  refine plain (y_move rfl rfl) rfl rfl rfl H125 ?_
                  clear H125; intro a127 H127
                  refine plain (y_fieldB rfl z_field85_3 rfl (by first | (simp only [Nat.zero_add, Nat.add_zero, Nat.reduceAdd]; rfl) | rfl)) rfl rfl rfl H127 ?_
                  clear H127; intro a128 H128
                  refine plain (y_fieldB rfl z_field30_1 rfl (by first | (simp only [Nat.zero_add, Nat.add_zero, Nat.reduceAdd]; rfl) | rfl)) rfl rfl rfl H128 ?_
                  clear H128; intro a129 H129
                  refine plain (y_loadB rfl z_agg3 rfl (by repeat (first | exact Mh | apply Mt)) q_ix_c7b32_4) rfl rfl rfl H129 ?_
                  clear H129; intro a130 H130
                  refine plain (y_fieldB rfl z_field85_2 rfl (by first | (simp only [Nat.zero_add, Nat.add_zero, Nat.reduceAdd]; rfl) | rfl)) rfl rfl rfl H130 ?_
                  clear H130; intro a131 H131
                  refine plain (y_loadB rfl z_agg3 rfl (by repeat (first | exact Mh | apply Mt)) q_ix_c7b32_2) rfl rfl rfl H131 ?_
                  clear H131; intro a132 H132
                  refine st_callu rfl z_call39 rfl rfl rfl rfl H132 (bput k0 B hB (l.getD k Auction.Act.zero).bid.who (l.getD k Auction.Act.zero).n (H132.sep.all _ (by repeat (first | exact Mh | apply Mt)))) (by repeat (first | exact Uh | apply Ut)) ?_
                  clear H132; intro a133 wx133 H133
                  refine fin ?_
                  refine then_n ?_
                  refine reg ?_
                  refine plain (y_move rfl rfl) rfl rfl rfl H133 ?_
                  clear H133; intro a134 H134
                  refine plain (y_fieldB rfl z_field85_3 rfl (by first | (simp only [Nat.zero_add, Nat.add_zero, Nat.reduceAdd]; rfl) | rfl)) rfl rfl rfl H134 ?_
                  clear H134; intro a135 H135
                  refine plain (y_fieldB rfl z_field30_1 rfl (by first | (simp only [Nat.zero_add, Nat.add_zero, Nat.reduceAdd]; rfl) | rfl)) rfl rfl rfl H135 ?_
                  clear H135; intro a136 H136
                  refine plain (y_loadB rfl z_agg3 rfl (by repeat (first | exact Mh | apply Mt)) q_ix_c7b32_4) rfl rfl rfl H136 ?_
                  clear H136; intro a137 H137
                  refine plain (y_fieldB rfl z_field85_2 rfl (by first | (simp only [Nat.zero_add, Nat.add_zero, Nat.reduceAdd]; rfl) | rfl)) rfl rfl rfl H137 ?_
                  clear H137; intro a138 H138
                  refine plain (y_loadB rfl z_agg3 rfl (by repeat (first | exact Mh | apply Mt)) q_ix_c7b32_2) rfl rfl rfl H138 ?_
                  clear H138; intro a139 H139
                  refine st_callu rfl z_call40 rfl rfl rfl rfl H139 (rput bx g hbg B hB (l.getD k Auction.Act.zero).bid.who (l.getD k Auction.Act.zero).n (H139.sep.all _ (by repeat (first | exact Mh | apply Mt))) (H139.sep.all _ (by repeat (first | exact Mh | apply Mt)))) (by repeat (first | exact Uh | apply Ut)) ?_
                  clear H139; intro a140 wx140 H140
                  refine fin ?_
                  refine inb_n ?_
                  refine cut_n ?_
                  first | (have hz := hk4; replace H140 := H140.nilRow 30 36; rw [show It.row 30 36 (.slice none 0 0) 0 [] = It.row 30 36 (.slice none 0 0) (Auction.of (Auction.less L (l.getD k Auction.Act.zero).bid.round) (l.getD k Auction.Act.zero).bid.round).length (Auction.bdc (Auction.of (Auction.less L (l.getD k Auction.Act.zero).bid.round) (l.getD k Auction.Act.zero).bid.round)) from by rw [Auction.less_of]; rfl] at H140; refine ⟨(Auction.less L (l.getD k Auction.Act.zero).bid.round), (mdel f (l.getD k Auction.Act.zero).bid.round), (.slice none 0 0 : Value), (Auction.paid B (Auction.win (Auction.of L (l.getD k Auction.Act.zero).bid.round) B (l.getD k Auction.Act.zero).bid.round floor)), vx1, ⟨by have := Auction.less_len L (l.getD k Auction.Act.zero).bid.round; omega, Auction.less_wf hL _, Auction.paid_ok hB _, hK2.swap Auction.mdel_at (fun q hq => Auction.mdel_ne hq), hC2.swap (fun q hq => Auction.less_other hq), fun q hq => Auction.less_other hq⟩, ?_⟩; have hfin := (H140.front (is := [It.blk b64 85 (Auction.Act.cells (l.getD k Auction.Act.zero)), It.row 30 36 (.slice none 0 0 : Value) (Auction.of (Auction.less L (l.getD k Auction.Act.zero).bid.round) (l.getD k Auction.Act.zero).bid.round).length (Auction.bdc (Auction.of (Auction.less L (l.getD k Auction.Act.zero).bid.round) (l.getD k Auction.Act.zero).bid.round)), It.blk b 111 [i64 floor, .map (some h)], It.mp h (mdel f (l.getD k Auction.Act.zero).bid.round), It.blk k0 114 ((Auction.paid B (Auction.win (Auction.of L (l.getD k Auction.Act.zero).bid.round) B (l.getD k Auction.Act.zero).bid.round floor)).map i64), It.row 30 36 vx1 (Auction.less L (l.getD k Auction.Act.zero).bid.round).length (Auction.bdc (Auction.less L (l.getD k Auction.Act.zero).bid.round)), It.blk b41 81 [i64 floor, vx1], It.blk bx 90 [.slice (some ⟨g, 0, none⟩) 64 64], It.blk g 3 ((Auction.paid B (Auction.win (Auction.of L (l.getD k Auction.Act.zero).bid.round) B (l.getD k Auction.Act.zero).bid.round floor)).map i64)]) (.cons (by repeat (first | exact Ph | apply Pt)) (.cons (by repeat (first | exact Ph | apply Pt)) (.cons (by repeat (first | exact Ph | apply Pt)) (.cons (by repeat (first | exact Ph | apply Pt)) (.cons (by repeat (first | exact Ph | apply Pt)) (.cons (by repeat (first | exact Ph | apply Pt)) (.cons (by repeat (first | exact Ph | apply Pt)) (.cons (by repeat (first | exact Ph | apply Pt)) (.cons (by repeat (first | exact Ph | apply Pt)) (.nil _))))))))))); simp only [List.cons_append, List.nil_append] at hfin; exact (hfin.drop (l' := It.blk b64 85 (Auction.Act.cells (l.getD k Auction.Act.zero)) :: It.row 30 36 (.slice none 0 0 : Value) (Auction.of (Auction.less L (l.getD k Auction.Act.zero).bid.round) (l.getD k Auction.Act.zero).bid.round).length (Auction.bdc (Auction.of (Auction.less L (l.getD k Auction.Act.zero).bid.round) (l.getD k Auction.Act.zero).bid.round)) :: It.blk b 111 [i64 floor, .map (some h)] :: It.mp h (mdel f (l.getD k Auction.Act.zero).bid.round) :: It.blk k0 114 ((Auction.paid B (Auction.win (Auction.of L (l.getD k Auction.Act.zero).bid.round) B (l.getD k Auction.Act.zero).bid.round floor)).map i64) :: It.row 30 36 vx1 (Auction.less L (l.getD k Auction.Act.zero).bid.round).length (Auction.bdc (Auction.less L (l.getD k Auction.Act.zero).bid.round)) :: It.blk b41 81 [i64 floor, vx1] :: It.blk bx 90 [.slice (some ⟨g, 0, none⟩) 64 64] :: It.blk g 3 ((Auction.paid B (Auction.win (Auction.of L (l.getD k Auction.Act.zero).bid.round) B (l.getD k Auction.Act.zero).bid.round floor)).map i64) :: (Auction.rowsOf 30 L D2)) (by repeat (first | exact S1 | exact S0 | apply S2 | apply S3))).weak ⟨rfl, rfl, rfl, rfl, rfl, rfl, rfl, trivial⟩ rfl) | (have hz := hk3; refine ⟨L, f, v, (Bank.put B (l.getD k Auction.Act.zero).bid.who (l.getD k Auction.Act.zero).n).2, vx, ⟨by omega, hL, Bank.put_keep hB _ _, hK2, hC2, fun _ _ => rfl⟩, ?_⟩; have hfin := (H140.front (is := [It.blk b64 85 (Auction.Act.cells (l.getD k Auction.Act.zero)), It.row 30 36 v (Auction.of L (l.getD k Auction.Act.zero).bid.round).length (Auction.bdc (Auction.of L (l.getD k Auction.Act.zero).bid.round)), It.blk b 111 [i64 floor, .map (some h)], It.mp h f, It.blk k0 114 ((Bank.put B (l.getD k Auction.Act.zero).bid.who (l.getD k Auction.Act.zero).n).2.map i64), It.row 30 36 vx L.length (Auction.bdc L), It.blk b41 81 [i64 floor, vx], It.blk bx 90 [.slice (some ⟨g, 0, none⟩) 64 64], It.blk g 3 ((Bank.put B (l.getD k Auction.Act.zero).bid.who (l.getD k Auction.Act.zero).n).2.map i64)]) (.cons (by repeat (first | exact Ph | apply Pt)) (.cons (by repeat (first | exact Ph | apply Pt)) (.cons (by repeat (first | exact Ph | apply Pt)) (.cons (by repeat (first | exact Ph | apply Pt)) (.cons (by repeat (first | exact Ph | apply Pt)) (.cons (by repeat (first | exact Ph | apply Pt)) (.cons (by repeat (first | exact Ph | apply Pt)) (.cons (by repeat (first | exact Ph | apply Pt)) (.cons (by repeat (first | exact Ph | apply Pt)) (.nil _))))))))))); simp only [List.cons_append, List.nil_append] at hfin; exact (hfin.drop (l' := It.blk b64 85 (Auction.Act.cells (l.getD k Auction.Act.zero)) :: It.row 30 36 v (Auction.of L (l.getD k Auction.Act.zero).bid.round).length (Auction.bdc (Auction.of L (l.getD k Auction.Act.zero).bid.round)) :: It.blk b 111 [i64 floor, .map (some h)] :: It.mp h f :: It.blk k0 114 ((Bank.put B (l.getD k Auction.Act.zero).bid.who (l.getD k Auction.Act.zero).n).2.map i64) :: It.row 30 36 vx L.length (Auction.bdc L) :: It.blk b41 81 [i64 floor, vx] :: It.blk bx 90 [.slice (some ⟨g, 0, none⟩) 64 64] :: It.blk g 3 ((Bank.put B (l.getD k Auction.Act.zero).bid.who (l.getD k Auction.Act.zero).n).2.map i64) :: (Auction.rowsOf 30 L D2)) (by repeat (first | exact S1 | exact S0 | apply S2 | apply S3))).weak ⟨rfl, rfl, rfl, rfl, rfl, rfl, rfl, trivial⟩ rfl) | (rw [← Auction.more_of] at H140; refine ⟨(Auction.more floor L (l.getD k Auction.Act.zero).bid (l.getD k Auction.Act.zero).now), f1, v1, B, vx1, ⟨by have := Auction.more_len floor L (l.getD k Auction.Act.zero).bid (l.getD k Auction.Act.zero).now; omega, Auction.more_wf hL wc.bid, hB, hK2.swap hv1 hf1, hC2.swap (fun q hq => Auction.more_other hq), fun q hq => Auction.more_other hq⟩, ?_⟩; have hfin := (H140.front (is := [It.blk b64 85 (Auction.Act.cells (l.getD k Auction.Act.zero)), It.row 30 36 v1 (Auction.of (Auction.more floor L (l.getD k Auction.Act.zero).bid (l.getD k Auction.Act.zero).now) (l.getD k Auction.Act.zero).bid.round).length (Auction.bdc (Auction.of (Auction.more floor L (l.getD k Auction.Act.zero).bid (l.getD k Auction.Act.zero).now) (l.getD k Auction.Act.zero).bid.round)), It.blk b 111 [i64 floor, .map (some h)], It.mp h f1, It.blk k0 114 (B.map i64), It.row 30 36 vx1 (Auction.more floor L (l.getD k Auction.Act.zero).bid (l.getD k Auction.Act.zero).now).length (Auction.bdc (Auction.more floor L (l.getD k Auction.Act.zero).bid (l.getD k Auction.Act.zero).now)), It.blk b41 81 [i64 floor, vx1], It.blk bx 90 [.slice (some ⟨g, 0, none⟩) 64 64], It.blk g 3 (B.map i64)]) (.cons (by repeat (first | exact Ph | apply Pt)) (.cons (by repeat (first | exact Ph | apply Pt)) (.cons (by repeat (first | exact Ph | apply Pt)) (.cons (by repeat (first | exact Ph | apply Pt)) (.cons (by repeat (first | exact Ph | apply Pt)) (.cons (by repeat (first | exact Ph | apply Pt)) (.cons (by repeat (first | exact Ph | apply Pt)) (.cons (by repeat (first | exact Ph | apply Pt)) (.cons (by repeat (first | exact Ph | apply Pt)) (.nil _))))))))))); simp only [List.cons_append, List.nil_append] at hfin; exact (hfin.drop (l' := It.blk b64 85 (Auction.Act.cells (l.getD k Auction.Act.zero)) :: It.row 30 36 v1 (Auction.of (Auction.more floor L (l.getD k Auction.Act.zero).bid (l.getD k Auction.Act.zero).now) (l.getD k Auction.Act.zero).bid.round).length (Auction.bdc (Auction.of (Auction.more floor L (l.getD k Auction.Act.zero).bid (l.getD k Auction.Act.zero).now) (l.getD k Auction.Act.zero).bid.round)) :: It.blk b 111 [i64 floor, .map (some h)] :: It.mp h f1 :: It.blk k0 114 (B.map i64) :: It.row 30 36 vx1 (Auction.more floor L (l.getD k Auction.Act.zero).bid (l.getD k Auction.Act.zero).now).length (Auction.bdc (Auction.more floor L (l.getD k Auction.Act.zero).bid (l.getD k Auction.Act.zero).now)) :: It.blk b41 81 [i64 floor, vx1] :: It.blk bx 90 [.slice (some ⟨g, 0, none⟩) 64 64] :: It.blk g 3 (B.map i64) :: (Auction.rowsOf 30 L D2)) (by repeat (first | exact S1 | exact S0 | apply S2 | apply S3))).weak ⟨rfl, rfl, rfl, rfl, rfl, rfl, rfl, trivial⟩ rfl)
                · skip
                  try simp only [decide_eq_true_eq, decide_eq_false_iff_not, Bool.not_eq_true', Bool.not_eq_false', Bool.and_eq_true, Bool.not_eq_true, Bool.not_eq_false] at hc126
                  have hk4 := hc126
                  refine wp_seq ?_
                  have hwt := Auction.win_tag hof B (l.getD k Auction.Act.zero).bid.round floor
                  refine reg ?_
                  refine plain (y_move rfl rfl) rfl rfl rfl H125 ?_
                  clear H125; intro a141 H141
                  refine plain (y_fieldB rfl z_field85_3 rfl (by first | (simp only [Nat.zero_add, Nat.add_zero, Nat.reduceAdd]; rfl) | rfl)) rfl rfl rfl H141 ?_
                  clear H141; intro a142 H142
                  refine plain (y_fieldB rfl z_field30_0 rfl (by first | (simp only [Nat.zero_add, Nat.add_zero, Nat.reduceAdd]; rfl) | rfl)) rfl rfl rfl H142 ?_
                  clear H142; intro a143 H143
                  refine plain (y_loadB rfl z_agg3 rfl (by repeat (first | exact Mh | apply Mt)) q_ix_c7b32_3) rfl rfl rfl H143 ?_
                  clear H143; intro a144 H144
                  refine plain (y_move rfl rfl) rfl rfl rfl H144 ?_
                  clear H144; intro a145 H145
                  refine st_callk2 (is := [It.blk b 111 [i64 floor, .map (some h)], It.mp h f, It.row 30 36 v (Auction.of L (l.getD k Auction.Act.zero).bid.round).length (Auction.bdc (Auction.of L (l.getD k Auction.Act.zero).bid.round)), It.blk k0 114 (B.map i64)]) (enters_call rfl z_call31 rfl) rfl rfl rfl H145 (.cons (by repeat (first | exact Ph | apply Pt)) (.cons (by repeat (first | exact Ph | apply Pt)) (.cons (by repeat (first | exact Ph | apply Pt)) (.cons (by repeat (first | exact Ph | apply Pt)) (.nil _))))) (fun hs => aclose floor (Auction.of L (l.getD k Auction.Act.zero).bid.round) hof hofl f v b h (l.getD k Auction.Act.zero).bid.round hkd.1 k0 B hB hs (hG.frm H145.sep.frm (by simp)) (fps_new H145.sep (.cons (by repeat (first | exact Ph | apply Pt)) (.cons (by repeat (first | exact Ph | apply Pt)) (.cons (by repeat (first | exact Ph | apply Pt)) (.cons (by repeat (first | exact Ph | apply Pt)) (.nil _))))) hG (by decide))) ?_
                  clear H145; intro v146 l146 a146 wx146 hf146 H146
                  obtain ⟨rfl, rfl⟩ := hf146
                  simp only [List.cons_append, List.nil_append] at H146
                  refine plain (y_move rfl rfl) rfl rfl rfl H146 ?_
                  clear H146; intro a147 H147
                  refine plain (y_extract rfl rfl rfl) rfl rfl rfl H147 ?_
                  clear H147; intro a148 H148
                  refine plain (y_extract rfl rfl rfl) rfl rfl rfl H148 ?_
                  clear H148; intro a149 H149
                  refine st_alloc rfl z_zeroN32 rfl rfl rfl H149 ?_
                  clear H149; intro b150 a150 wx150 H150
                  refine st_storeN rfl z_size32 rfl rfl (agg_cells _) (by repeat (first | exact Uh | apply Ut)) (q_one_c4b32c1 rfl rfl rfl rfl rfl) (q_len_c4b32c1 (by assumption)) (q_len_c4b32c1 (by assumption)) (q_spl_c4b32c1_0_c4b32c1 (by assumption) (by assumption)) (by decide) rfl rfl H150 ?_
                  clear H150; intro wx151 H151
                  refine plain (y_assign rfl rfl) rfl rfl rfl H151 ?_
                  clear H151; intro a152 H152
                  refine fin ?_
                  refine then_n ?_
                  refine wp_seq ?_
                  refine reg ?_
                  refine plain (y_move rfl rfl) rfl rfl rfl H152 ?_
                  clear H152; intro a153 H153
                  refine plain (y_fieldB rfl z_field85_3 rfl (by first | (simp only [Nat.zero_add, Nat.add_zero, Nat.reduceAdd]; rfl) | rfl)) rfl rfl rfl H153 ?_
                  clear H153; intro a154 H154
                  refine plain (y_fieldB rfl z_field30_0 rfl (by first | (simp only [Nat.zero_add, Nat.add_zero, Nat.reduceAdd]; rfl) | rfl)) rfl rfl rfl H154 ?_
                  clear H154; intro a155 H155
                  refine plain (y_loadB rfl z_agg3 rfl (by repeat (first | exact Mh | apply Mt)) q_ix_c7b32_3) rfl rfl rfl H155 ?_
                  clear H155; intro a156 H156
                  refine plain (y_move rfl rfl) rfl rfl rfl H156 ?_
                  clear H156; intro a157 H157
                  refine st_callk2 (is := [It.row 30 36 vx L.length (Auction.bdc L), It.blk b41 81 [i64 floor, vx], It.blk bx 90 [.slice (some ⟨g, 0, none⟩) 64 64], It.blk g 3 (B.map i64)]) (enters_call rfl z_call41 rfl) rfl rfl rfl H157 (.cons (by repeat (first | exact Ph | apply Pt)) (.cons (by repeat (first | exact Ph | apply Pt)) (.cons (by repeat (first | exact Ph | apply Pt)) (.cons (by repeat (first | exact Ph | apply Pt)) (.nil _))))) (fun hs => xclose floor L hL hLl b41 vx (l.getD k Auction.Act.zero).bid.round bx g B hB hs) ?_
                  clear H157; intro v158 l158 a158 wx158 hf158 H158
                  obtain ⟨rfl, vx1, rfl⟩ := hf158
                  simp only [List.cons_append, List.nil_append] at H158
                  refine plain (y_move rfl rfl) rfl rfl rfl H158 ?_
                  clear H158; intro a159 H159
                  refine plain (y_extract rfl rfl rfl) rfl rfl rfl H159 ?_
                  clear H159; intro a160 H160
                  refine plain (y_extract rfl rfl rfl) rfl rfl rfl H160 ?_
                  clear H160; intro a161 H161
                  refine st_alloc rfl z_zeroN32 rfl rfl rfl H161 ?_
                  clear H161; intro b162 a162 wx162 H162
                  refine st_storeN rfl z_size32 rfl rfl (agg_cells _) (by repeat (first | exact Uh | apply Ut)) (q_one_c4b32c1 rfl rfl rfl rfl rfl) (q_len_c4b32c1 (by assumption)) (q_len_c4b32c1 (by assumption)) (q_spl_c4b32c1_0_c4b32c1 (by assumption) (by assumption)) (by decide) rfl rfl H162 ?_
                  clear H162; intro wx163 H163
                  refine plain (y_assign rfl rfl) rfl rfl rfl H163 ?_
                  clear H163; intro a164 H164
                  refine fin ?_
                  refine then_n ?_
                  refine wp_seq ?_
                  refine reg ?_
                  refine plain (y_loadAB rfl z_agg32 z_size32 rfl (by repeat (first | exact Mh | apply Mt)) (q_ld_c4b32c1_0_37 (by assumption)) (q_len_c4b32c1 (by assumption))) rfl rfl rfl H164 ?_
                  clear H164; intro a165 H165
                  refine plain (y_loadAB rfl z_agg32 z_size32 rfl (by repeat (first | exact Mh | apply Mt)) (q_ld_c4b32c1_0_37 (by assumption)) (q_len_c4b32c1 (by assumption))) rfl rfl rfl H165 ?_
                  clear H165; intro a166 H166
                  refine plain (y_tneq rfl (by kernel_rfl) rfl rfl (eqr_Win (Auction.win (Auction.of L (l.getD k Auction.Act.zero).bid.round) B (l.getD k Auction.Act.zero).bid.round floor).1 (Auction.win (Auction.of L (l.getD k Auction.Act.zero).bid.round) B (l.getD k Auction.Act.zero).bid.round floor).1 hwt hwt)) rfl rfl rfl H166 ?_
                  clear H166; intro a167 H167
                  refine plain (y_move rfl rfl) rfl rfl rfl H167 ?_
                  clear H167; intro a168 H168
                  have H170 := H168.know (d := 85) (v := .bool false) rfl (congrArg Value.bool (by first | exact decide_eq_false (fun z => z rfl) | rfl | (simp; done) | (simp; omega)))
                  clear H168
                  refine plain (y_move rfl rfl) rfl rfl rfl H170 ?_
                  clear H170; intro a171 H171
                  refine plain (y_move rfl rfl) rfl rfl rfl H171 ?_
                  clear H171; intro a172 H172
                  refine plain (y_bneq rfl Tryd.underlying4 rfl rfl) rfl rfl rfl H172 ?_
                  clear H172; intro a173 H173
                  refine plain (y_pick_f rfl rfl rfl) rfl rfl rfl H173 ?_
                  clear H173; intro a174 H174
                  refine fin ?_
                  refine then_n ?_
                  refine cnd H174 rfl (fun hc175 => ?_) (fun hc175 => ?_) -- cond 13
                  · (try simp only [decide_eq_true_eq, decide_eq_false_iff_not, Bool.not_eq_true', Bool.not_eq_false', Bool.and_eq_true, Bool.not_eq_true, Bool.not_eq_false] at hc175); (exfalso; simp at hc175)
                  · skip
                    try simp only [decide_eq_true_eq, decide_eq_false_iff_not, Bool.not_eq_true', Bool.not_eq_false', Bool.and_eq_true, Bool.not_eq_true, Bool.not_eq_false] at hc175
                    refine wp_skip ?_
                    refine inb_n ?_
                    refine cut_n ?_
                    first | (have hz := hk4; replace H174 := H174.nilRow 30 36; rw [show It.row 30 36 (.slice none 0 0) 0 [] = It.row 30 36 (.slice none 0 0) (Auction.of (Auction.less L (l.getD k Auction.Act.zero).bid.round) (l.getD k Auction.Act.zero).bid.round).length (Auction.bdc (Auction.of (Auction.less L (l.getD k Auction.Act.zero).bid.round) (l.getD k Auction.Act.zero).bid.round)) from by rw [Auction.less_of]; rfl] at H174; refine ⟨(Auction.less L (l.getD k Auction.Act.zero).bid.round), (mdel f (l.getD k Auction.Act.zero).bid.round), (.slice none 0 0 : Value), (Auction.paid B (Auction.win (Auction.of L (l.getD k Auction.Act.zero).bid.round) B (l.getD k Auction.Act.zero).bid.round floor)), vx1, ⟨by have := Auction.less_len L (l.getD k Auction.Act.zero).bid.round; omega, Auction.less_wf hL _, Auction.paid_ok hB _, hK2.swap Auction.mdel_at (fun q hq => Auction.mdel_ne hq), hC2.swap (fun q hq => Auction.less_other hq), fun q hq => Auction.less_other hq⟩, ?_⟩; have hfin := (H174.front (is := [It.blk b64 85 (Auction.Act.cells (l.getD k Auction.Act.zero)), It.row 30 36 (.slice none 0 0 : Value) (Auction.of (Auction.less L (l.getD k Auction.Act.zero).bid.round) (l.getD k Auction.Act.zero).bid.round).length (Auction.bdc (Auction.of (Auction.less L (l.getD k Auction.Act.zero).bid.round) (l.getD k Auction.Act.zero).bid.round)), It.blk b 111 [i64 floor, .map (some h)], It.mp h (mdel f (l.getD k Auction.Act.zero).bid.round), It.blk k0 114 ((Auction.paid B (Auction.win (Auction.of L (l.getD k Auction.Act.zero).bid.round) B (l.getD k Auction.Act.zero).bid.round floor)).map i64), It.row 30 36 vx1 (Auction.less L (l.getD k Auction.Act.zero).bid.round).length (Auction.bdc (Auction.less L (l.getD k Auction.Act.zero).bid.round)), It.blk b41 81 [i64 floor, vx1], It.blk bx 90 [.slice (some ⟨g, 0, none⟩) 64 64], It.blk g 3 ((Auction.paid B (Auction.win (Auction.of L (l.getD k Auction.Act.zero).bid.round) B (l.getD k Auction.Act.zero).bid.round floor)).map i64)]) (.cons (by repeat (first | exact Ph | apply Pt)) (.cons (by repeat (first | exact Ph | apply Pt)) (.cons (by repeat (first | exact Ph | apply Pt)) (.cons (by repeat (first | exact Ph | apply Pt)) (.cons (by repeat (first | exact Ph | apply Pt)) (.cons (by repeat (first | exact Ph | apply Pt)) (.cons (by repeat (first | exact Ph | apply Pt)) (.cons (by repeat (first | exact Ph | apply Pt)) (.cons (by repeat (first | exact Ph | apply Pt)) (.nil _))))))))))); simp only [List.cons_append, List.nil_append] at hfin; exact (hfin.drop (l' := It.blk b64 85 (Auction.Act.cells (l.getD k Auction.Act.zero)) :: It.row 30 36 (.slice none 0 0 : Value) (Auction.of (Auction.less L (l.getD k Auction.Act.zero).bid.round) (l.getD k Auction.Act.zero).bid.round).length (Auction.bdc (Auction.of (Auction.less L (l.getD k Auction.Act.zero).bid.round) (l.getD k Auction.Act.zero).bid.round)) :: It.blk b 111 [i64 floor, .map (some h)] :: It.mp h (mdel f (l.getD k Auction.Act.zero).bid.round) :: It.blk k0 114 ((Auction.paid B (Auction.win (Auction.of L (l.getD k Auction.Act.zero).bid.round) B (l.getD k Auction.Act.zero).bid.round floor)).map i64) :: It.row 30 36 vx1 (Auction.less L (l.getD k Auction.Act.zero).bid.round).length (Auction.bdc (Auction.less L (l.getD k Auction.Act.zero).bid.round)) :: It.blk b41 81 [i64 floor, vx1] :: It.blk bx 90 [.slice (some ⟨g, 0, none⟩) 64 64] :: It.blk g 3 ((Auction.paid B (Auction.win (Auction.of L (l.getD k Auction.Act.zero).bid.round) B (l.getD k Auction.Act.zero).bid.round floor)).map i64) :: (Auction.rowsOf 30 L D2)) (by repeat (first | exact S1 | exact S0 | apply S2 | apply S3))).weak ⟨rfl, rfl, rfl, rfl, rfl, rfl, rfl, trivial⟩ rfl) | (have hz := hk3; refine ⟨L, f, v, (Bank.put B (l.getD k Auction.Act.zero).bid.who (l.getD k Auction.Act.zero).n).2, vx, ⟨by omega, hL, Bank.put_keep hB _ _, hK2, hC2, fun _ _ => rfl⟩, ?_⟩; have hfin := (H174.front (is := [It.blk b64 85 (Auction.Act.cells (l.getD k Auction.Act.zero)), It.row 30 36 v (Auction.of L (l.getD k Auction.Act.zero).bid.round).length (Auction.bdc (Auction.of L (l.getD k Auction.Act.zero).bid.round)), It.blk b 111 [i64 floor, .map (some h)], It.mp h f, It.blk k0 114 ((Bank.put B (l.getD k Auction.Act.zero).bid.who (l.getD k Auction.Act.zero).n).2.map i64), It.row 30 36 vx L.length (Auction.bdc L), It.blk b41 81 [i64 floor, vx], It.blk bx 90 [.slice (some ⟨g, 0, none⟩) 64 64], It.blk g 3 ((Bank.put B (l.getD k Auction.Act.zero).bid.who (l.getD k Auction.Act.zero).n).2.map i64)]) (.cons (by repeat (first | exact Ph | apply Pt)) (.cons (by repeat (first | exact Ph | apply Pt)) (.cons (by repeat (first | exact Ph | apply Pt)) (.cons (by repeat (first | exact Ph | apply Pt)) (.cons (by repeat (first | exact Ph | apply Pt)) (.cons (by repeat (first | exact Ph | apply Pt)) (.cons (by repeat (first | exact Ph | apply Pt)) (.cons (by repeat (first | exact Ph | apply Pt)) (.cons (by repeat (first | exact Ph | apply Pt)) (.nil _))))))))))); simp only [List.cons_append, List.nil_append] at hfin; exact (hfin.drop (l' := It.blk b64 85 (Auction.Act.cells (l.getD k Auction.Act.zero)) :: It.row 30 36 v (Auction.of L (l.getD k Auction.Act.zero).bid.round).length (Auction.bdc (Auction.of L (l.getD k Auction.Act.zero).bid.round)) :: It.blk b 111 [i64 floor, .map (some h)] :: It.mp h f :: It.blk k0 114 ((Bank.put B (l.getD k Auction.Act.zero).bid.who (l.getD k Auction.Act.zero).n).2.map i64) :: It.row 30 36 vx L.length (Auction.bdc L) :: It.blk b41 81 [i64 floor, vx] :: It.blk bx 90 [.slice (some ⟨g, 0, none⟩) 64 64] :: It.blk g 3 ((Bank.put B (l.getD k Auction.Act.zero).bid.who (l.getD k Auction.Act.zero).n).2.map i64) :: (Auction.rowsOf 30 L D2)) (by repeat (first | exact S1 | exact S0 | apply S2 | apply S3))).weak ⟨rfl, rfl, rfl, rfl, rfl, rfl, rfl, trivial⟩ rfl) | (rw [← Auction.more_of] at H174; refine ⟨(Auction.more floor L (l.getD k Auction.Act.zero).bid (l.getD k Auction.Act.zero).now), f1, v1, B, vx1, ⟨by have := Auction.more_len floor L (l.getD k Auction.Act.zero).bid (l.getD k Auction.Act.zero).now; omega, Auction.more_wf hL wc.bid, hB, hK2.swap hv1 hf1, hC2.swap (fun q hq => Auction.more_other hq), fun q hq => Auction.more_other hq⟩, ?_⟩; have hfin := (H174.front (is := [It.blk b64 85 (Auction.Act.cells (l.getD k Auction.Act.zero)), It.row 30 36 v1 (Auction.of (Auction.more floor L (l.getD k Auction.Act.zero).bid (l.getD k Auction.Act.zero).now) (l.getD k Auction.Act.zero).bid.round).length (Auction.bdc (Auction.of (Auction.more floor L (l.getD k Auction.Act.zero).bid (l.getD k Auction.Act.zero).now) (l.getD k Auction.Act.zero).bid.round)), It.blk b 111 [i64 floor, .map (some h)], It.mp h f1, It.blk k0 114 (B.map i64), It.row 30 36 vx1 (Auction.more floor L (l.getD k Auction.Act.zero).bid (l.getD k Auction.Act.zero).now).length (Auction.bdc (Auction.more floor L (l.getD k Auction.Act.zero).bid (l.getD k Auction.Act.zero).now)), It.blk b41 81 [i64 floor, vx1], It.blk bx 90 [.slice (some ⟨g, 0, none⟩) 64 64], It.blk g 3 (B.map i64)]) (.cons (by repeat (first | exact Ph | apply Pt)) (.cons (by repeat (first | exact Ph | apply Pt)) (.cons (by repeat (first | exact Ph | apply Pt)) (.cons (by repeat (first | exact Ph | apply Pt)) (.cons (by repeat (first | exact Ph | apply Pt)) (.cons (by repeat (first | exact Ph | apply Pt)) (.cons (by repeat (first | exact Ph | apply Pt)) (.cons (by repeat (first | exact Ph | apply Pt)) (.cons (by repeat (first | exact Ph | apply Pt)) (.nil _))))))))))); simp only [List.cons_append, List.nil_append] at hfin; exact (hfin.drop (l' := It.blk b64 85 (Auction.Act.cells (l.getD k Auction.Act.zero)) :: It.row 30 36 v1 (Auction.of (Auction.more floor L (l.getD k Auction.Act.zero).bid (l.getD k Auction.Act.zero).now) (l.getD k Auction.Act.zero).bid.round).length (Auction.bdc (Auction.of (Auction.more floor L (l.getD k Auction.Act.zero).bid (l.getD k Auction.Act.zero).now) (l.getD k Auction.Act.zero).bid.round)) :: It.blk b 111 [i64 floor, .map (some h)] :: It.mp h f1 :: It.blk k0 114 (B.map i64) :: It.row 30 36 vx1 (Auction.more floor L (l.getD k Auction.Act.zero).bid (l.getD k Auction.Act.zero).now).length (Auction.bdc (Auction.more floor L (l.getD k Auction.Act.zero).bid (l.getD k Auction.Act.zero).now)) :: It.blk b41 81 [i64 floor, vx1] :: It.blk bx 90 [.slice (some ⟨g, 0, none⟩) 64 64] :: It.blk g 3 (B.map i64) :: (Auction.rowsOf 30 L D2)) (by repeat (first | exact S1 | exact S0 | apply S2 | apply S3))).weak ⟨rfl, rfl, rfl, rfl, rfl, rfl, rfl, trivial⟩ rfl)
        · clear H67; intro a176 wx176 hI176
          obtain ⟨L1, f1, v1, B1, vx1, ⟨hL1k, hL1, hB1, hK1, hC1, hoth⟩, H176⟩ := hI176
          refine then_n ?_
          refine wp_seq ?_
          obtain ⟨A6, c6, rfl, hR6, hm6⟩ := row_shape (v := vx1) H176.sep (by repeat (first | exact Mh | apply Mt))
          have hLl1 : L1.length ≤ 1000 := by omega
          have hof1 := Auction.of_wf hL1 (l.getD k Auction.Act.zero).bid.round
          have hofl1 : (Auction.of L1 (l.getD k Auction.Act.zero).bid.round).length ≤ 1000 := by have := Auction.of_len L1 (l.getD k Auction.Act.zero).bid.round; omega
          have hkd1 := hK1.head
          have hrow1 : Auction.rowsOf 30 L1 D2 = Auction.rowsOf 30 L D2 := Auction.rows_same hkd.2 hoth
          refine hreg [It.blk b64 85 (Auction.Act.cells (l.getD k Auction.Act.zero)), It.row 30 36 v1 (Auction.of L1 (l.getD k Auction.Act.zero).bid.round).length (Auction.bdc (Auction.of L1 (l.getD k Auction.Act.zero).bid.round)), It.blk b 111 [i64 floor, .map (some h)], It.mp h f1, It.blk b41 81 [i64 floor, (.slice A6 L1.length c6)], It.blk bx 90 [.slice (some ⟨g, 0, none⟩) 64 64]] (fun _ h => (h.sub (by first | exact S0 | exact S1 | repeat (first | exact S1 | exact S0 | apply S2 | apply S3)))) (by kernel_rfl) H176 ?_
          clear H176; intro wx177 H177
          refine htake 0 rfl (by kernel_rfl) (y_move rfl rfl) rfl rfl rfl (fun _ h => (h.sub (by first | exact S0 | exact S1 | repeat (first | exact S1 | exact S0 | apply S2 | apply S3)))) H177 ?_
          clear H177; intro a178 H178
          refine htake 1 rfl (by kernel_rfl) (y_fieldB rfl z_field85_3 rfl (by first | (simp only [Nat.zero_add, Nat.add_zero, Nat.reduceAdd]; rfl) | rfl)) rfl rfl rfl (fun _ h => (h.sub (by first | exact S0 | exact S1 | repeat (first | exact S1 | exact S0 | apply S2 | apply S3)))) H178 ?_
          clear H178; intro a179 H179
          refine htake 2 rfl (by kernel_rfl) (y_fieldB rfl z_field30_0 rfl (by first | (simp only [Nat.zero_add, Nat.add_zero, Nat.reduceAdd]; rfl) | rfl)) rfl rfl rfl (fun _ h => (h.sub (by first | exact S0 | exact S1 | repeat (first | exact S1 | exact S0 | apply S2 | apply S3)))) H179 ?_
          clear H179; intro a180 H180
          refine htake 3 rfl (by kernel_rfl) (y_loadB rfl z_agg3 rfl (by repeat (first | exact Mh | apply Mt)) q_ix_c7b32_3) rfl rfl rfl (fun _ h => (h.sub (by first | exact S0 | exact S1 | repeat (first | exact S1 | exact S0 | apply S2 | apply S3)))) H180 ?_
          clear H180; intro a181 H181
          refine htake 5 rfl (by kernel_rfl) (y_move rfl rfl) rfl rfl rfl (fun _ h => (h.sub (by first | exact S0 | exact S1 | repeat (first | exact S1 | exact S0 | apply S2 | apply S3)))) H181 ?_
          clear H181; intro a182 H182
          refine htake 6 rfl (by kernel_rfl) (y_fieldB rfl z_field85_3 rfl (by first | (simp only [Nat.zero_add, Nat.add_zero, Nat.reduceAdd]; rfl) | rfl)) rfl rfl rfl (fun _ h => (h.sub (by first | exact S0 | exact S1 | repeat (first | exact S1 | exact S0 | apply S2 | apply S3)))) H182 ?_
          clear H182; intro a183 H183
          refine htake 7 rfl (by kernel_rfl) (y_fieldB rfl z_field30_0 rfl (by first | (simp only [Nat.zero_add, Nat.add_zero, Nat.reduceAdd]; rfl) | rfl)) rfl rfl rfl (fun _ h => (h.sub (by first | exact S0 | exact S1 | repeat (first | exact S1 | exact S0 | apply S2 | apply S3)))) H183 ?_
          clear H183; intro a184 H184
          refine htake 8 rfl (by kernel_rfl) (y_loadB rfl z_agg3 rfl (by repeat (first | exact Mh | apply Mt)) q_ix_c7b32_3) rfl rfl rfl (fun _ h => (h.sub (by first | exact S0 | exact S1 | repeat (first | exact S1 | exact S0 | apply S2 | apply S3)))) H184 ?_
          clear H184; intro a185 H185
          refine hgo 4 rfl (by kernel_rfl) ?_
          refine st_call rfl z_call35 rfl rfl rfl rfl H185 (abids floor (Auction.of L1 (l.getD k Auction.Act.zero).bid.round) hof1 hofl1 f1 v1 b h (l.getD k Auction.Act.zero).bid.round hkd1.1 (H185.sep.all _ (by repeat (first | exact Mh | apply Mt))) (H185.sep.all _ (by repeat (first | exact Mh | apply Mt))) (H185.sep.all _ (by repeat (first | exact Mh | apply Mt)))) ?_
          clear H185; intro v186 l186 a186 wx186 hf186 H186
          obtain rfl := hf186
          simp only [List.cons_append, List.nil_append] at H186
          obtain ⟨ArS, crS, hvrS, hRrS, hmrS⟩ := row_shape (v := v186) H186.sep (by repeat (first | exact Mh | apply Mt))
          subst hvrS
          refine hfinA H186.sep ?_
          refine hgo 9 rfl (by kernel_rfl) ?_
          refine st_call rfl z_call42 rfl rfl rfl rfl H186 (xbids floor L1 hL1 hLl1 b41 (.slice A6 L1.length c6) (l.getD k Auction.Act.zero).bid.round (H186.sep.all _ (by repeat (first | exact Mh | apply Mt))) (H186.sep.all _ (by repeat (first | exact Mh | apply Mt)))) ?_
          clear H186; intro v187 l187 a187 wx187 hf187 H187
          obtain rfl := hf187
          simp only [List.cons_append, List.nil_append] at H187
          obtain ⟨ArT, crT, hvrT, hRrT, hmrT⟩ := row_shape (v := v187) H187.sep (by repeat (first | exact Mh | apply Mt))
          subst hvrT
          refine hfinA H187.sep ?_
          refine hgo 10 rfl (by kernel_rfl) ?_
          refine st_callg rfl z_call36 rfl rfl rfl rfl H187 (xsame (Auction.of L1 (l.getD k Auction.Act.zero).bid.round) hof1 ArS ArT crS crT hofl1 (Rd.ofSep (rd_row (by repeat (first | exact Mh | apply Mt))) H187.sep) (Rd.ofSep (rd_row (by repeat (first | exact Mh | apply Mt))) H187.sep)) ?_
          clear H187; intro a188 wx188 H188
          refine hfinA H188.sep ?_
          refine htake 11 rfl (by kernel_rfl) (y_not rfl rfl) rfl rfl rfl (fun _ h => (h.sub (by first | exact S0 | exact S1 | repeat (first | exact S1 | exact S0 | apply S2 | apply S3)))) H188 ?_
          clear H188; intro a189 H189
          refine htake 12 rfl (by kernel_rfl) (y_move rfl rfl) rfl rfl rfl (fun _ h => (h.sub (by first | exact S0 | exact S1 | repeat (first | exact S1 | exact S0 | apply S2 | apply S3)))) H189 ?_
          clear H189; intro a190 H190
          refine htake 13 rfl (by kernel_rfl) (y_move rfl rfl) rfl rfl rfl (fun _ h => (h.sub (by first | exact S0 | exact S1 | repeat (first | exact S1 | exact S0 | apply S2 | apply S3)))) H190 ?_
          clear H190; intro a191 H191
          refine htake 15 rfl (by kernel_rfl) (y_move rfl rfl) rfl rfl rfl (fun _ h => (h.sub (by first | exact S0 | exact S1 | repeat (first | exact S1 | exact S0 | apply S2 | apply S3)))) H191 ?_
          clear H191; intro a192 H192
          refine htake 16 rfl (by kernel_rfl) (y_nilCheck rfl rfl) rfl rfl rfl (fun _ h => (h.sub (by first | exact S0 | exact S1 | repeat (first | exact S1 | exact S0 | apply S2 | apply S3)))) H192 ?_
          clear H192; intro a193 H193
          refine htake 17 rfl (by kernel_rfl) (y_fieldB rfl z_field90_0 rfl (by first | (simp only [Nat.zero_add, Nat.add_zero, Nat.reduceAdd]; rfl) | rfl)) rfl rfl rfl (fun _ h => (h.sub (by first | exact S0 | exact S1 | repeat (first | exact S1 | exact S0 | apply S2 | apply S3)))) H193 ?_
          clear H193; intro a194 H194
          refine htake 18 rfl (by kernel_rfl) (y_loadB rfl z_agg23 rfl (by repeat (first | exact Mh | apply Mt)) q_ix_c1_0) rfl rfl rfl (fun _ h => (h.sub (by first | exact S0 | exact S1 | repeat (first | exact S1 | exact S0 | apply S2 | apply S3)))) H194 ?_
          clear H194; intro a195 H195
          refine hgo 14 rfl (by kernel_rfl) ?_
          refine st_call rfl z_call44 rfl rfl rfl rfl H195 (ball k0 B1 hB1 (H195.sep.all _ (by repeat (first | exact Mh | apply Mt)))) ?_
          clear H195; intro v196 l196 a196 wx196 hf196 H196
          obtain rfl := hf196
          simp only [List.cons_append, List.nil_append] at H196
          obtain ⟨ArU, crU, hvrU, hRrU, hmrU⟩ := row_shape (v := v196) H196.sep (by repeat (first | exact Mh | apply Mt))
          subst hvrU
          refine hfinA H196.sep ?_
          refine hgo 19 rfl (by kernel_rfl) ?_
          refine st_callg rfl z_call43 rfl rfl rfl rfl H196 (numbers B1 B1 _ _ _ _ _ _ hB1.len.symm hB1.len.symm (Rd.ofSep (rd_row (by repeat (first | exact Mh | apply Mt))) H196.sep) (Rd.ofSep (rd_blkA (by repeat (first | exact Mh | apply Mt))) H196.sep) (by rw [hB1.len]; decide)) ?_
          clear H196; intro a197 wx197 H197
          refine hfinA H197.sep ?_
          refine htake 20 rfl (by kernel_rfl) ((by first | exact y_not_d rfl rfl | exact y_not rfl rfl)) rfl rfl rfl (fun _ h => (h.sub (by first | exact S0 | exact S1 | repeat (first | exact S1 | exact S0 | apply S2 | apply S3)))) H197 ?_
          clear H197; intro a198 H198
          refine htake 21 rfl (by kernel_rfl) (y_pick_f rfl rfl rfl) rfl rfl rfl (fun _ h => (h.sub (by first | exact S0 | exact S1 | repeat (first | exact S1 | exact S0 | apply S2 | apply S3)))) H198 ?_
          clear H198; intro a199 H199
          refine hdone (by kernel_rfl) ?_
          refine then_n ?_
          refine cnd H199 rfl (fun hc200 => ?_) (fun hc200 => ?_) -- cond 14
          · (try simp only [decide_eq_true_eq, decide_eq_false_iff_not, Bool.not_eq_true', Bool.not_eq_false', Bool.and_eq_true, Bool.not_eq_true, Bool.not_eq_false] at hc200); (exfalso; simp at hc200)
          · skip
            try simp only [decide_eq_true_eq, decide_eq_false_iff_not, Bool.not_eq_true', Bool.not_eq_false', Bool.and_eq_true, Bool.not_eq_true, Bool.not_eq_false] at hc200
            refine wp_skip ?_
            refine inb_n ?_
            refine then_n ?_
            refine reg ?_
            refine plain (y_move rfl rfl) rfl rfl rfl H199 ?_
            clear H199; intro a201 H201
            refine plain (y_add rfl rfl rfl (by first | exact w64 (by omega) (by omega) | rfl)) rfl rfl rfl H201 ?_
            clear H201; intro a202 H202
            refine plain (y_assign rfl rfl) rfl rfl rfl H202 ?_
            clear H202; intro a203 H203
            refine fin ?_
            refine then_n ?_
            refine ⟨(k + 1, (L1, (f1, (((l.getD k Auction.Act.zero).bid.round, v1) :: D2, (B1, (.slice A6 L1.length c6)))))), by dsimp only; omega, ⟨by dsimp only; omega, by dsimp only; omega, hL1, hB1, hK1, hC1⟩, ?_⟩
            have hfin := (H203.front (is := [It.blk b 111 [i64 floor, .map (some h)], It.mp h f1, It.blk k0 114 (B1.map i64), It.row 30 36 (.slice A6 L1.length c6) L1.length (Auction.bdc L1), It.blk b41 81 [i64 floor, (.slice A6 L1.length c6)], It.blk bx 90 [.slice (some ⟨g, 0, none⟩) 64 64], It.blk g 3 (B1.map i64), It.row 30 36 v1 (Auction.of L1 (l.getD k Auction.Act.zero).bid.round).length (Auction.bdc (Auction.of L1 (l.getD k Auction.Act.zero).bid.round))]) (.cons (by repeat (first | exact Ph | apply Pt)) (.cons (by repeat (first | exact Ph | apply Pt)) (.cons (by repeat (first | exact Ph | apply Pt)) (.cons (by repeat (first | exact Ph | apply Pt)) (.cons (by repeat (first | exact Ph | apply Pt)) (.cons (by repeat (first | exact Ph | apply Pt)) (.cons (by repeat (first | exact Ph | apply Pt)) (.cons (by repeat (first | exact Ph | apply Pt)) (.nil _))))))))))
            simp only [List.cons_append, List.nil_append] at hfin
            exact (hfin.drop (l' := It.blk b 111 [i64 floor, .map (some h)] :: It.mp h f1 :: It.blk k0 114 (B1.map i64) :: It.row 30 36 (.slice A6 L1.length c6) L1.length (Auction.bdc L1) :: It.blk b41 81 [i64 floor, (.slice A6 L1.length c6)] :: It.blk bx 90 [.slice (some ⟨g, 0, none⟩) 64 64] :: It.blk g 3 (B1.map i64) :: It.row 30 36 v1 (Auction.of L1 (l.getD k Auction.Act.zero).bid.round).length (Auction.bdc (Auction.of L1 (l.getD k Auction.Act.zero).bid.round)) :: (Auction.rowsOf 30 L D2)) (by repeat (first | exact S1 | exact S0 | apply S2 | apply S3))).weak ⟨rfl, rfl, rfl, rfl, rfl, fi rfl (by dsimp only; omega), trivial⟩ (by rw [← hrow1]; rfl)
      · skip
        try simp only [decide_eq_true_eq, decide_eq_false_iff_not, Bool.not_eq_true', Bool.not_eq_false', Bool.and_eq_true, Bool.not_eq_true, Bool.not_eq_false] at hc59
        refine wp_exit ?_
        refine then_x ?_
        refine then_x ?_
        refine inb_hit ?_
        refine then_n ?_
        refine wp_seq ?_
        refine reg ?_
        refine plain (y_assign rfl rfl) rfl rfl rfl H58 ?_
        clear H58; intro a204 H204
        refine fin ?_
        refine then_n ?_
        refine wp_ret ?_
        -- return 1
        refine ret1 rfl H204 rfl ?_
        exact ⟨_, [], rfl, ⟨rfl, rfl⟩, H204.sep.sub (List.nil_sublist _)⟩
  · first
    | fail
    | skip
      clear H53; intro H205
      try simp only [decide_eq_true_eq, decide_eq_false_iff_not, Bool.not_eq_true', Bool.not_eq_false', Bool.and_eq_true, Bool.not_eq_true, Bool.not_eq_false] at hg54
      refine skip rfl rfl rfl H205 ?_
      clear H205; intro a206 H206
      refine skip rfl rfl rfl H206 ?_
      clear H206; intro a207 H207
      refine plain (y_pick_f rfl rfl rfl) rfl rfl rfl H207 ?_
      clear H207; intro a208 H208
      refine fin ?_
      refine then_n ?_
      refine cnd_f H208 rfl ?_
      refine wp_exit ?_
      refine then_x ?_
      refine then_x ?_
      refine inb_hit ?_
      refine then_n ?_
      refine wp_seq ?_
      refine reg ?_
      refine plain (y_assign rfl rfl) rfl rfl rfl H208 ?_
      clear H208; intro a210 H210
      refine fin ?_
      refine then_n ?_
      refine wp_ret ?_
      -- return 2
      refine ret1 rfl H210 rfl ?_
      exact ⟨_, [], rfl, ⟨rfl, rfl⟩, H210.sep.sub (List.nil_sublist _)⟩
set_option maxRecDepth 100000 in
set_option maxHeartbeats 1000000 in
theorem auctionBooks0 (floor : Int) (h1 : ¬ (0 ≤ floor ∧ floor ≤ 1099511627776)) (l : List Auction.Act) (A : Option Addr) (ca : Nat) (hl0 : l.length ≤ 9223372036854775807) (wl : ∀ z ∈ l, Auction.Act.Wf z) {w : World} (hA : Rd w A (Auction.aac l)) (hG : Glob 0 Sha.K w) : Calls Tryd.prog 11 #[.int .i64 floor, .slice A l.length ca] w (Gives (.bool true) [] w) := by
  have lz32 : (List.replicate 32 (0 : UInt8)).length = 32 := List.length_replicate
  refine enterL (args := [.int .i64 floor, .slice A l.length ca]) Tryd.func11 rfl rfl (l := []) (Sep.refl _) ?_
  intro a0 H0
  refine wp_seq ?_
  refine reg ?_
  refine plain (y_assign rfl rfl) rfl rfl rfl H0 ?_
  clear H0; intro a1 H1
  refine fin ?_
  refine then_n ?_
  refine wp_seq ?_
  refine reg ?_
  refine plain (y_move rfl rfl) rfl rfl rfl H1 ?_
  clear H1; intro a2 H2
  refine st_callg rfl z_call33 rfl rfl rfl rfl H2 (anewBad floor h1 _) ?_
  clear H2; intro a3 wx3 H3
  refine plain (y_move rfl rfl) rfl rfl rfl H3 ?_
  clear H3; intro a4 H4
  refine plain (y_extract rfl rfl rfl) rfl rfl rfl H4 ?_
  clear H4; intro a5 H5
  refine plain (y_extract rfl rfl rfl) rfl rfl rfl H5 ?_
  clear H5; intro a6 H6
  refine plain (y_assign rfl rfl) rfl rfl rfl H6 ?_
  clear H6; intro a7 H7
  refine plain (y_assign rfl rfl) rfl rfl rfl H7 ?_
  clear H7; intro a8 H8
  refine fin ?_
  refine then_n ?_
  refine wp_seq ?_
  refine wp_seq ?_
  refine reg ?_
  refine plain (y_move rfl rfl) rfl rfl rfl H8 ?_
  clear H8; intro a9 H9
  refine plain (y_eql rfl rfl rfl) rfl rfl rfl H9 ?_
  clear H9; intro a10 H10
  refine plain (y_move rfl rfl) rfl rfl rfl H10 ?_
  clear H10; intro a11 H11
  refine plain (y_lss rfl rfl rfl) rfl rfl rfl H11 ?_
  clear H11; intro a12 H12
  refine plain (y_move rfl rfl) rfl rfl rfl H12 ?_
  clear H12; intro a13 H13
  refine Sx.part (d := 25) H13 rfl (fun hg14 => ?_) (fun hg14 => ?_)
  · first
    | fail
    | skip
      clear H13; intro H15
      try simp only [decide_eq_true_eq, decide_eq_false_iff_not, Bool.not_eq_true', Bool.not_eq_false', Bool.and_eq_true, Bool.not_eq_true, Bool.not_eq_false] at hg14
      refine skip rfl rfl rfl H15 ?_
      clear H15; intro a16 H16
      refine skip rfl rfl rfl H16 ?_
      clear H16; intro a17 H17
      refine plain (y_pick_t rfl rfl rfl) rfl rfl rfl H17 ?_
      clear H17; intro a18 H18
      refine plain (y_bneq rfl Tryd.underlying4 rfl rfl) rfl rfl rfl H18 ?_
      clear H18; intro a19 H19
      refine plain (y_move rfl rfl) rfl rfl rfl H19 ?_
      clear H19; intro a20 H20
      have H22 := H20.know (d := 30) (v := .bool false) rfl (congrArg Value.bool (by first | fail | rfl | (simp; done) | (simp; omega)))
      clear H20
      refine plain (y_move rfl rfl) rfl rfl rfl H22 ?_
      clear H22; intro a23 H23
      refine plain (y_peql rfl Tryd.underlying68 rfl rfl) rfl rfl rfl H23 ?_
      clear H23; intro a24 H24
      refine plain (y_move rfl rfl) rfl rfl rfl H24 ?_
      clear H24; intro a25 H25
      refine plain (y_neq rfl rfl rfl) rfl rfl rfl H25 ?_
      clear H25; intro a26 H26
      refine plain (y_bneq rfl Tryd.underlying4 rfl rfl) rfl rfl rfl H26 ?_
      clear H26; intro a27 H27
      refine plain (y_pick_f rfl rfl rfl) rfl rfl rfl H27 ?_
      clear H27; intro a28 H28
      refine plain (y_move rfl rfl) rfl rfl rfl H28 ?_
      clear H28; intro a29 H29
      have H31 := H29.know (d := 37) (v := .bool false) rfl (congrArg Value.bool (by first | fail | rfl | (simp; done) | (simp; omega)))
      clear H29
      refine st_callg rfl z_call15 rfl rfl rfl rfl H31 (aawake (hG.frm H31.sep.frm (by simp))) ?_
      clear H31; intro a32 wx32 H32
      refine plain (y_not rfl rfl) rfl rfl rfl H32 ?_
      clear H32; intro a33 H33
      refine plain (y_pick_f rfl rfl rfl) rfl rfl rfl H33 ?_
      clear H33; intro a34 H34
      refine fin ?_
      refine then_n ?_
      refine cnd_f H34 rfl ?_
      refine wp_skip ?_
      refine then_n ?_
      refine wp_seq ?_
      refine wp_seq ?_
      refine reg ?_
      refine plain (y_move rfl rfl) rfl rfl rfl H34 ?_
      clear H34; intro a36 H36
      refine plain (y_peql rfl Tryd.underlying68 rfl rfl) rfl rfl rfl H36 ?_
      clear H36; intro a37 H37
      refine fin ?_
      refine then_n ?_
      refine cnd_t H37 rfl ?_
      refine wp_seq ?_
      refine reg ?_
      refine plain (y_assign rfl rfl) rfl rfl rfl H37 ?_
      clear H37; intro a39 H39
      refine fin ?_
      refine then_n ?_
      refine wp_ret ?_
      refine then_r ?_
      -- return 1
      refine ret1 rfl H39 rfl ?_
      exact ⟨_, [], rfl, ⟨rfl, rfl⟩, H39.sep.sub (List.nil_sublist _)⟩
  · first
    | fail
    | skip
      clear H13; intro H40
      try simp only [decide_eq_true_eq, decide_eq_false_iff_not, Bool.not_eq_true', Bool.not_eq_false', Bool.and_eq_true, Bool.not_eq_true, Bool.not_eq_false] at hg14
      refine plain (y_move rfl rfl) rfl rfl rfl H40 ?_
      clear H40; intro a41 H41
      refine plain (y_gtr rfl rfl rfl) rfl rfl rfl H41 ?_
      clear H41; intro a42 H42
      refine plain (y_pick_f rfl rfl rfl) rfl rfl rfl H42 ?_
      clear H42; intro a43 H43
      refine plain (y_bneq rfl Tryd.underlying4 rfl rfl) rfl rfl rfl H43 ?_
      clear H43; intro a44 H44
      refine plain (y_move rfl rfl) rfl rfl rfl H44 ?_
      clear H44; intro a45 H45
      have H47 := H45.know (d := 30) (v := .bool false) rfl (congrArg Value.bool (by first | fail | rfl | (simp; done) | (simp; omega)))
      clear H45
      refine plain (y_move rfl rfl) rfl rfl rfl H47 ?_
      clear H47; intro a48 H48
      refine plain (y_peql rfl Tryd.underlying68 rfl rfl) rfl rfl rfl H48 ?_
      clear H48; intro a49 H49
      refine plain (y_move rfl rfl) rfl rfl rfl H49 ?_
      clear H49; intro a50 H50
      refine plain (y_neq rfl rfl rfl) rfl rfl rfl H50 ?_
      clear H50; intro a51 H51
      refine plain (y_bneq rfl Tryd.underlying4 rfl rfl) rfl rfl rfl H51 ?_
      clear H51; intro a52 H52
      refine plain (y_pick_f rfl rfl rfl) rfl rfl rfl H52 ?_
      clear H52; intro a53 H53
      refine plain (y_move rfl rfl) rfl rfl rfl H53 ?_
      clear H53; intro a54 H54
      have H56 := H54.know (d := 37) (v := .bool false) rfl (congrArg Value.bool (by first | fail | rfl | (simp; done) | (simp; omega)))
      clear H54
      refine st_callg rfl z_call15 rfl rfl rfl rfl H56 (aawake (hG.frm H56.sep.frm (by simp))) ?_
      clear H56; intro a57 wx57 H57
      refine plain (y_not rfl rfl) rfl rfl rfl H57 ?_
      clear H57; intro a58 H58
      refine plain (y_pick_f rfl rfl rfl) rfl rfl rfl H58 ?_
      clear H58; intro a59 H59
      refine fin ?_
      refine then_n ?_
      refine cnd_f H59 rfl ?_
      refine wp_skip ?_
      refine then_n ?_
      refine wp_seq ?_
      refine wp_seq ?_
      refine reg ?_
      refine plain (y_move rfl rfl) rfl rfl rfl H59 ?_
      clear H59; intro a61 H61
      refine plain (y_peql rfl Tryd.underlying68 rfl rfl) rfl rfl rfl H61 ?_
      clear H61; intro a62 H62
      refine fin ?_
      refine then_n ?_
      refine cnd_t H62 rfl ?_
      refine wp_seq ?_
      refine reg ?_
      refine plain (y_assign rfl rfl) rfl rfl rfl H62 ?_
      clear H62; intro a64 H64
      refine fin ?_
      refine then_n ?_
      refine wp_ret ?_
      refine then_r ?_
      -- return 2
      refine ret1 rfl H64 rfl ?_
      exact ⟨_, [], rfl, ⟨rfl, rfl⟩, H64.sep.sub (List.nil_sublist _)⟩
theorem auctionBooks (floor : Int) (l : List Auction.Act) (A : Option Addr) (ca : Nat) (hl0 : l.length ≤ 9223372036854775807) (wl : ∀ z ∈ l, Auction.Act.Wf z) {w : World} (hA : Rd w A (Auction.aac l)) (hG : Glob 0 Sha.K w) : Calls Tryd.prog 11 #[.int .i64 floor, .slice A l.length ca] w (Gives (.bool true) [] w) := by
  by_cases h1 : 0 ≤ floor ∧ floor ≤ 1099511627776
  · exact auctionBooks1 floor h1 l A ca hl0 wl hA hG
  · exact auctionBooks0 floor h1 l A ca hl0 wl hA hG

end Go.Proofs.YtaeahloenahelaaDoor.A_L9

set_option linter.unusedVariables false
set_option linter.unusedSimpArgs false
namespace Go.Proofs.YtaeahloenahelaaDoor.A_RdB
open Go.Sx Go.RowKit

theorem rd_Bid2 {H : Type} {enc : TypeId × Value → H} {W : World} {sp : Nat → Bool} {held : Bool} {cs : List Value} (h : Trw enc Tryd.prog W sp held 30 cs) : ∃ (x : Note.Bid), cs = Note.Bid.cells x ∧ Note.Bid.Wf x := by
  have hp := h.pieces Tryd.underlying30 [1, 1, 1, 1, 32] (by kernel_rfl)
  obtain ⟨v0, e0, w0⟩ := (h.field Tryd.underlying30 0 rfl (o := 0) rfl (T := 3) rfl (k := 1) (by kernel_rfl)).i64 Tryd.underlying3
  obtain ⟨v1, e1, w1⟩ := (h.field Tryd.underlying30 1 rfl (o := 1) rfl (T := 3) rfl (k := 1) (by kernel_rfl)).i64 Tryd.underlying3
  obtain ⟨v2, e2, w2⟩ := (h.field Tryd.underlying30 2 rfl (o := 2) rfl (T := 3) rfl (k := 1) (by kernel_rfl)).i64 Tryd.underlying3
  obtain ⟨v3, e3, w3⟩ := (h.field Tryd.underlying30 3 rfl (o := 3) rfl (T := 3) rfl (k := 1) (by kernel_rfl)).i64 Tryd.underlying3
  obtain ⟨v4, e4, w4⟩ := (h.field Tryd.underlying30 4 rfl (o := 4) rfl (T := 28) rfl (k := 32) (by kernel_rfl)).bytes Tryd.underlying28 Tryd.underlying5 (by kernel_rfl) (by kernel_rfl)
  refine ⟨⟨v0, v1, v2, v3, v4⟩, ?_, w0, w1, w2, w3, w4⟩
  rw [hp]
  simp only [Sx.pieces, Nat.zero_add, Nat.reduceAdd, e0, e1, e2, e3, e4]
  first | rfl | simp [Note.Bid.cells]
theorem rd_AAct {H : Type} {enc : TypeId × Value → H} {W : World} {sp : Nat → Bool} {held : Bool} {cs : List Value} (h : Trw enc Tryd.prog W sp held 85 cs) : ∃ (x : Auction.Act), cs = Auction.Act.cells x ∧ Auction.Act.Wf x := by
  have hp := h.pieces Tryd.underlying85 [1, 1, 1, 36] (by kernel_rfl)
  obtain ⟨v0, e0, w0⟩ := (h.field Tryd.underlying85 0 rfl (o := 0) rfl (T := 3) rfl (k := 1) (by kernel_rfl)).i64 Tryd.underlying3
  obtain ⟨v1, e1, w1⟩ := (h.field Tryd.underlying85 1 rfl (o := 1) rfl (T := 3) rfl (k := 1) (by kernel_rfl)).i64 Tryd.underlying3
  obtain ⟨v2, e2, w2⟩ := (h.field Tryd.underlying85 2 rfl (o := 2) rfl (T := 3) rfl (k := 1) (by kernel_rfl)).i64 Tryd.underlying3
  obtain ⟨v3, e3, w3⟩ := rd_Bid2 (h.field Tryd.underlying85 3 rfl (o := 3) rfl (T := 30) rfl (k := 36) (by kernel_rfl))
  refine ⟨⟨v0, v1, v2, v3⟩, ?_, w0, w1, w2, w3⟩
  rw [hp]
  simp only [Sx.pieces, Nat.zero_add, Nat.reduceAdd, e0, e1, e2, e3]
  first | rfl | (simp [Auction.Act.cells, Note.Bid.cells]; done) | (simp [Auction.Act.cells, Note.Bid.cells]; rfl)

end Go.Proofs.YtaeahloenahelaaDoor.A_RdB
