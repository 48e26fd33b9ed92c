/- Part of a proof about given Go functions: contracts of functions, or plain laws. -/
import Derived.Test.YtbdkgmkaakoigaaS6
import Derived.Test.YtbdkgmkaakoigaaS5
import Derived.Test.YtbdkgmkaakoigaaS7
import Derived.Test.YtbdkgmkaakoigaaProg
import Derived.Test.YtbdkgmkaakoigaaW1
import Derived.Test.YtbdkgmkaakoigaaW3
import Derived.Test.YtbdkgmkaakoigaaW2
set_option linter.unusedVariables false
set_option linter.unusedSimpArgs false
namespace Go.Proofs.Ytbdkgmkaakoigaa.P_L5
open Go.Sx Go.RowKit Go.Proofs.Ytbdkgmkaakoigaa.P_EqT Go.Proofs.Ytbdkgmkaakoigaa.P_R1 Go.Proofs.Ytbdkgmkaakoigaa.P_New Go.Proofs.Ytbdkgmkaakoigaa.P_Aw Go.Proofs.Ytbdkgmkaakoigaa.P_Put Go.Proofs.Ytbdkgmkaakoigaa.P_Nx Go.Proofs.Ytbdkgmkaakoigaa.P_Old Go.Proofs.Ytbdkgmkaakoigaa.P_All Go.Proofs.Ytbdkgmkaakoigaa.P_Pl

theorem z_call20 : callB Try.prog 20 = true := by kernel_rfl
theorem z_call9 : callB Try.prog 9 = true := by kernel_rfl
theorem z_call18 : callB Try.prog 18 = true := by kernel_rfl
theorem z_slice23 : sliceB Try.prog 23 = some (3, 1, 8) := by kernel_rfl
theorem z_zval3 : (Try.prog.info? 3).bind (·.zero) = some (.int .i64 0) := by kernel_rfl
theorem z_zeroN23 : zeroL Try.prog 23 = some ((.slice none 0 0 :: [])) := by kernel_rfl
theorem z_size23 : sizeB Try.prog 23 = some 1 := by kernel_rfl
theorem q_len_c1 {a0 : Value} : (a0 :: []).length = 1 := (len_c (n := 0) len_n)
theorem q_set_c1_0 {a0 : Value} {v : Value} : (a0 :: []).set 0 v = v :: [] := set_0
theorem z_agg23 : aggB Try.prog 23 = some false := by kernel_rfl
theorem q_ix_c1_0 {a0 : Value} : (a0 :: [])[0]? = some a0 := ix_0
theorem z_size38 : sizeB Try.prog 38 = some 76 := by kernel_rfl
theorem z_field38_0 : fieldB Try.prog 38 0 = some 0 := by kernel_rfl
theorem z_field36_0 : fieldB Try.prog 36 0 = some 0 := by kernel_rfl
theorem z_agg3 : aggB Try.prog 3 = some false := by kernel_rfl
theorem z_size3 : sizeB Try.prog 3 = some 1 := by kernel_rfl
theorem z_field36_1 : fieldB Try.prog 36 1 = some 1 := by kernel_rfl
theorem z_call15 : callB Try.prog 15 = true := by kernel_rfl
theorem z_zeroN38 : zeroL Try.prog 38 = some ((.int .i64 0 :: (.int .i64 0 :: (.int .i64 0 :: (.int .i64 0 :: (.string ⟨#[]⟩ :: (.bool false :: (.int .i64 0 :: (.int .i64 0 :: ((List.replicate 32 (0 : UInt8)).map u8 ++ ((List.replicate 32 (0 : UInt8)).map u8 ++ (.int .i64 0 :: (.int .i64 0 :: (.int .i64 0 :: (.int .i64 0 :: []))))))))))))))) := by kernel_rfl
theorem q_one_c8b32b32c4 {a0 a1 a2 a3 a4 a5 a6 a7 a10 a11 a12 a13 : Value} {t8 t9 : List UInt8} (o0 : a0.oneCell' = true) (o1 : a1.oneCell' = true) (o2 : a2.oneCell' = true) (o3 : a3.oneCell' = true) (o4 : a4.oneCell' = true) (o5 : a5.oneCell' = true) (o6 : a6.oneCell' = true) (o7 : a7.oneCell' = true) (o10 : a10.oneCell' = true) (o11 : a11.oneCell' = true) (o12 : a12.oneCell' = true) (o13 : a13.oneCell' = true) : (a0 :: a1 :: a2 :: a3 :: a4 :: a5 :: a6 :: a7 :: (t8.map u8 ++ ((t9.map u8 ++ (a10 :: a11 :: a12 :: a13 :: []))))).all (·.oneCell') = true := (one_c o0 (one_c o1 (one_c o2 (one_c o3 (one_c o4 (one_c o5 (one_c o6 (one_c o7 (one_b (one_b (one_c o10 (one_c o11 (one_c o12 (one_c o13 one_n))))))))))))))
theorem q_len_c8b32b32c4 {a0 a1 a2 a3 a4 a5 a6 a7 a10 a11 a12 a13 : Value} {t8 t9 : List UInt8} (h8 : t8.length = 32) (h9 : t9.length = 32) : (a0 :: a1 :: a2 :: a3 :: a4 :: a5 :: a6 :: a7 :: (t8.map u8 ++ ((t9.map u8 ++ (a10 :: a11 :: a12 :: a13 :: []))))).length = 76 := (len_c (n := 75) (len_c (n := 74) (len_c (n := 73) (len_c (n := 72) (len_c (n := 71) (len_c (n := 70) (len_c (n := 69) (len_c (n := 68) (len_b (k := 32) (n := 36) h8 (len_b (k := 32) (n := 4) h9 (len_c (n := 3) (len_c (n := 2) (len_c (n := 1) (len_c (n := 0) len_n))))))))))))))
theorem q_spl_c8b32b32c4_0_c8b32b32c4 {a0 a1 a2 a3 a4 a5 a6 a7 a10 a11 a12 a13 : Value} {t8 t9 : List UInt8} {b0 b1 b2 b3 b4 b5 b6 b7 b10 b11 b12 b13 : Value} {s8 s9 : List UInt8} (h8 : t8.length = 32) (h9 : t9.length = 32) (g8 : s8.length = 32) (g9 : s9.length = 32) : spl (a0 :: a1 :: a2 :: a3 :: a4 :: a5 :: a6 :: a7 :: (t8.map u8 ++ ((t9.map u8 ++ (a10 :: a11 :: a12 :: a13 :: []))))) 0 (b0 :: b1 :: b2 :: b3 :: b4 :: b5 :: b6 :: b7 :: (s8.map u8 ++ ((s9.map u8 ++ (b10 :: b11 :: b12 :: b13 :: []))))) = b0 :: b1 :: b2 :: b3 :: b4 :: b5 :: b6 :: b7 :: (s8.map u8 ++ ((s9.map u8 ++ (b10 :: b11 :: b12 :: b13 :: [])))) := (spl_a (z := 76) (len_c (n := 75) (len_c (n := 74) (len_c (n := 73) (len_c (n := 72) (len_c (n := 71) (len_c (n := 70) (len_c (n := 69) (len_c (n := 68) (len_b (k := 32) (n := 36) h8 (len_b (k := 32) (n := 4) h9 (len_c (n := 3) (len_c (n := 2) (len_c (n := 1) (len_c (n := 0) len_n)))))))))))))) (len_c (n := 75) (len_c (n := 74) (len_c (n := 73) (len_c (n := 72) (len_c (n := 71) (len_c (n := 70) (len_c (n := 69) (len_c (n := 68) (len_b (k := 32) (n := 36) g8 (len_b (k := 32) (n := 4) g9 (len_c (n := 3) (len_c (n := 2) (len_c (n := 1) (len_c (n := 0) len_n)))))))))))))))
theorem z_agg38 : aggB Try.prog 38 = some true := by kernel_rfl
theorem q_ld_c8b32b32c4_0_76 {a0 a1 a2 a3 a4 a5 a6 a7 a10 a11 a12 a13 : Value} {t8 t9 : List UInt8} (h8 : t8.length = 32) (h9 : t9.length = 32) : ((a0 :: a1 :: a2 :: a3 :: a4 :: a5 :: a6 :: a7 :: (t8.map u8 ++ ((t9.map u8 ++ (a10 :: a11 :: a12 :: a13 :: []))))).drop 0).take 76 = a0 :: a1 :: a2 :: a3 :: a4 :: a5 :: a6 :: a7 :: (t8.map u8 ++ ((t9.map u8 ++ (a10 :: a11 :: a12 :: a13 :: [])))) := (ld_a (len_c (n := 75) (len_c (n := 74) (len_c (n := 73) (len_c (n := 72) (len_c (n := 71) (len_c (n := 70) (len_c (n := 69) (len_c (n := 68) (len_b (k := 32) (n := 36) h8 (len_b (k := 32) (n := 4) h9 (len_c (n := 3) (len_c (n := 2) (len_c (n := 1) (len_c (n := 0) len_n)))))))))))))))
theorem z_places38 : placesB Try.prog 38 = some [(0, 72), (72, 1), (73, 1), (74, 1), (75, 1)] := by kernel_rfl
theorem z_call12 : callB Try.prog 12 = true := by kernel_rfl
theorem z_field38_3 : fieldB Try.prog 38 3 = some 74 := by kernel_rfl
theorem q_ix_c8b32b32c4_74 {a0 a1 a2 a3 a4 a5 a6 a7 a10 a11 a12 a13 : Value} {t8 t9 : List UInt8} (h8 : t8.length = 32) (h9 : t9.length = 32) : (a0 :: a1 :: a2 :: a3 :: a4 :: a5 :: a6 :: a7 :: (t8.map u8 ++ ((t9.map u8 ++ (a10 :: a11 :: a12 :: a13 :: [])))))[74]? = some a12 := (ix_c (o := 73) (ix_c (o := 72) (ix_c (o := 71) (ix_c (o := 70) (ix_c (o := 69) (ix_c (o := 68) (ix_c (o := 67) (ix_c (o := 66) (ix_b (k := 32) (o := 34) h8 rfl (ix_b (k := 32) (o := 2) h9 rfl (ix_c (o := 1) (ix_c (o := 0) ix_0))))))))))))
theorem q_ix_c8b32b32c4_1 {a0 a1 a2 a3 a4 a5 a6 a7 a10 a11 a12 a13 : Value} {t8 t9 : List UInt8} : (a0 :: a1 :: a2 :: a3 :: a4 :: a5 :: a6 :: a7 :: (t8.map u8 ++ ((t9.map u8 ++ (a10 :: a11 :: a12 :: a13 :: [])))))[1]? = some a1 := (ix_c (o := 0) ix_0)
theorem q_ix_c8b32b32c4_0 {a0 a1 a2 a3 a4 a5 a6 a7 a10 a11 a12 a13 : Value} {t8 t9 : List UInt8} : (a0 :: a1 :: a2 :: a3 :: a4 :: a5 :: a6 :: a7 :: (t8.map u8 ++ ((t9.map u8 ++ (a10 :: a11 :: a12 :: a13 :: [])))))[0]? = some a0 := ix_0
theorem z_call19 : callB Try.prog 19 = true := by kernel_rfl
theorem z_call21 : callB Try.prog 21 = true := by kernel_rfl

set_option maxRecDepth 100000 in
set_option maxHeartbeats 8000000 in
theorem poolWaits (z : Int) (hz : 0 ≤ z ∧ z ≤ 255) (l : List Pool.Come) (A : Option Addr) (ca : Nat) (hl0 : l.length ≤ 9223372036854775807) (wl : ∀ z ∈ l, Pool.Come.Wf z) (now : Int) {w : World} (hA : Rd w A (Pool.cmc l)) : Calls Try.prog 6 #[.int .u8 z, .slice A l.length ca, .int .i64 now] w (Gives (.bool true) [] w) := by
  have lz32 : (List.replicate 32 (0 : UInt8)).length = 32 := List.length_replicate
  refine enterL (args := [.int .u8 z, .slice A l.length ca, .int .i64 now]) Try.func6 rfl rfl (l := []) (Sep.refl _) ?_
  intro a0 H0
  refine wp_seq ?_
  refine reg ?_
  refine plain (y_assign rfl rfl) rfl rfl rfl H0 ?_
  clear H0; intro a1 H1
  refine fin ?_
  refine then_n ?_
  refine wp_seq ?_
  refine reg ?_
  refine plain (y_move rfl rfl) rfl rfl rfl H1 ?_
  clear H1; intro a2 H2
  refine plain (y_conv rfl Try.underlying5 Try.underlying3 rfl (by first | exact w64 (by omega) (by omega) | rfl)) rfl rfl rfl H2 ?_
  clear H2; intro a3 H3
  refine plain (y_add rfl rfl rfl (by first | exact w64 (by omega) (by omega) | rfl)) rfl rfl rfl H3 ?_
  clear H3; intro a4 H4
  refine plain (y_move rfl rfl) rfl rfl rfl H4 ?_
  clear H4; intro a5 H5
  refine st_call rfl z_call20 rfl rfl rfl rfl H5 (pplay (z + 1) (by omega) l A ca hl0 wl (Rd.frm hA H5.sep.frm (by simp))) ?_
  clear H5; intro v6 l6 a6 wx6 hf6 H6
  obtain ⟨vo, vg, v, bp, rfl, rfl⟩ := hf6
  simp only [List.cons_append, List.nil_append] at H6
  have hO := Pool.o_play (n := z + 1) (by omega) (Pool.delays wl) (min l.length 120)
  have hE := Pool.e_play (n := z + 1) (by omega) l (min l.length 120)
  have hY := Pool.y_play (n := z + 1) (by omega) wl (min l.length 120) (by omega) (by omega)
  generalize hs : (Pool.play (z + 1) l (min l.length 120)) = s at hO hE hY H6
  have hput := hY.put
  have hfew := hY.few
  have hlen : s.p.L.length ≤ 1000 := by omega
  obtain ⟨Ao, co, rfl, hRo, hmo⟩ := row_shape (v := vo) H6.sep (by repeat (first | exact Mh | apply Mt))
  refine plain (y_move rfl rfl) rfl rfl rfl H6 ?_
  clear H6; intro a7 H7
  refine plain (y_extract rfl rfl rfl) rfl rfl rfl H7 ?_
  clear H7; intro a8 H8
  refine plain (y_extract rfl rfl rfl) rfl rfl rfl H8 ?_
  clear H8; intro a9 H9
  refine plain (y_extract rfl rfl rfl) rfl rfl rfl H9 ?_
  clear H9; intro a10 H10
  refine plain (y_extract rfl rfl rfl) rfl rfl rfl H10 ?_
  clear H10; intro a11 H11
  refine plain (y_assign rfl rfl) rfl rfl rfl H11 ?_
  clear H11; intro a12 H12
  refine plain (y_assign rfl rfl) rfl rfl rfl H12 ?_
  clear H12; intro a13 H13
  refine plain (y_assign rfl rfl) rfl rfl rfl H13 ?_
  clear H13; intro a14 H14
  refine plain (y_assign rfl rfl) rfl rfl rfl H14 ?_
  clear H14; intro a15 H15
  refine fin ?_
  refine then_n ?_
  refine wp_seq ?_
  refine wp_seq ?_
  refine reg ?_
  refine plain (y_move rfl rfl) rfl rfl rfl H15 ?_
  clear H15; intro a16 H16
  refine plain (y_peql rfl Try.underlying24 rfl rfl) rfl rfl rfl H16 ?_
  clear H16; intro a17 H17
  refine plain (y_move rfl rfl) rfl rfl rfl H17 ?_
  clear H17; intro a18 H18
  have H20 := H18.know (d := 29) (v := .bool false) rfl (rfl)
  clear H18
  refine st_callg rfl z_call9 rfl rfl rfl rfl H20 (pawake _) ?_
  clear H20; intro a21 wx21 H21
  refine plain (y_not rfl rfl) rfl rfl rfl H21 ?_
  clear H21; intro a22 H22
  refine plain (y_pick_f rfl rfl rfl) rfl rfl rfl H22 ?_
  clear H22; intro a23 H23
  refine fin ?_
  refine then_n ?_
  refine cnd_f H23 rfl ?_
  refine wp_skip ?_
  refine then_n ?_
  refine wp_seq ?_
  refine reg ?_
  refine plain (y_move rfl rfl) rfl rfl rfl H23 ?_
  clear H23; intro a25 H25
  refine st_call rfl z_call18 rfl rfl rfl rfl H25 (pall s.p.L hY.wl (z + 1) bp v hlen (H25.sep.all _ (by repeat (first | exact Mh | apply Mt))) (H25.sep.all _ (by repeat (first | exact Mh | apply Mt)))) ?_
  clear H25; intro v26 l26 a26 wx26 hf26 H26
  obtain rfl := hf26
  simp only [List.cons_append, List.nil_append] at H26
  obtain ⟨ArA, crA, hvrA, hRrA, hmrA⟩ := row_shape (v := v26) H26.sep (by repeat (first | exact Mh | apply Mt))
  subst hvrA
  refine plain (y_assign rfl rfl) rfl rfl rfl H26 ?_
  clear H26; intro a27 H27
  refine fin ?_
  refine then_n ?_
  refine wp_seq ?_
  refine reg ?_
  refine st_make rfl z_slice23 rfl rfl (by decide) (by decide) z_zval3 rfl rfl rfl H27 ?_
  clear H27; intro b28 a28 wx28 H28
  refine st_alloc rfl z_zeroN23 rfl rfl rfl H28 ?_
  clear H28; intro b29 a29 wx29 H29
  refine st_store1N rfl z_size23 rfl rfl rfl (by repeat (first | exact Uh | apply Ut)) q_len_c1 q_set_c1_0 (by decide) rfl rfl H29 ?_
  clear H29; intro wx30 H30
  refine fin ?_
  refine then_n ?_
  refine wp_seq ?_
  refine wp_seq ?_
  refine reg ?_
  refine plain (y_assign rfl rfl) rfl rfl rfl H30 ?_
  clear H30; intro a31 H31
  refine fin ?_
  refine then_n ?_
  refine wp_block ?_
  refine loop (ι := Nat × List Int) (fun y => [(2, .int .i64 now), (9, .pointer (some ⟨bp, 0, none⟩)), (11, (.slice ArA s.p.L.length crA)), (12, .pointer (some ⟨b29, 0, none⟩)), (13, .int .i64 (y.1 : Int))]) (fun y => [It.blk b29 23 [.slice (some ⟨b28, 0, none⟩) 64 64], It.blk b28 3 (y.2.map i64), It.row 38 76 (.slice ArA s.p.L.length crA) s.p.L.length (Pool.wc s.p.L), It.row 38 76 (.slice Ao s.out.length co) s.out.length (Pool.wc s.out), It.row 38 76 vg s.gone.length (Pool.wc s.gone), It.row 38 76 v s.p.L.length (Pool.wc s.p.L), It.blk bp 63 [i64 (z + 1), v]]) (fun y => y.1 ≤ s.p.L.length ∧ y.2.length = 64) (fun y => s.p.L.length - y.1) ((0, List.replicate 64 0)) ⟨Nat.zero_le _, List.length_replicate⟩ (H31.weak ⟨rfl, rfl, rfl, rfl, rfl, trivial⟩ (ib2 rfl (ib2 (made_i64 64) rfl))) ?_
  clear H31; intro y a32 wx32 hok32 H32
  obtain ⟨k, nx⟩ := y
  dsimp only at hok32 H32
  obtain ⟨hok, h64⟩ := hok32
  refine wp_seq ?_
  refine wp_seq ?_
  refine reg ?_
  refine plain (y_move rfl rfl) rfl rfl rfl H32 ?_
  clear H32; intro a33 H33
  refine plain (y_move rfl rfl) rfl rfl rfl H33 ?_
  clear H33; intro a34 H34
  refine plain (y_len rfl Try.underlying30 rfl) rfl rfl rfl H34 ?_
  clear H34; intro a35 H35
  refine plain (y_lss rfl rfl rfl) rfl rfl rfl H35 ?_
  clear H35; intro a36 H36
  refine fin ?_
  refine then_n ?_
  refine cnd H36 rfl (fun hc37 => ?_) (fun hc37 => ?_) -- cond 2
  · skip
    try simp only [decide_eq_true_eq, decide_eq_false_iff_not, Bool.not_eq_true', Bool.not_eq_false', Bool.and_eq_true, Bool.not_eq_true, Bool.not_eq_false] at hc37
    refine wp_skip ?_
    refine then_n ?_
    refine wp_seq ?_
    refine wp_block ?_
    refine wp_seq ?_
    have hkl : k < s.p.L.length := by omega
    have hwk := hY.wl.at_ hkl
    have whd := hwk.tx.hand
    have wtg := hwk.tx.tag
    have hri := hY.good.right _ (Pool.mem_getD (L := s.p.L) hkl)
    have hrs := Pool.right_src hri
    refine qreg (by kernel_rfl) (by kernel_rfl) H36 ?_
    have F38 := H36.fr
    clear H36
    refine qplain (y_loadB rfl z_agg23 rfl (by repeat (first | exact Mh | apply Mt)) q_ix_c1_0) rfl rfl rfl F38 ?_
    clear F38; intro a39 H39
    refine qplain (y_move rfl rfl) rfl rfl rfl H39 ?_
    clear H39; intro a40 H40
    refine qplain (y_move rfl rfl) rfl rfl rfl H40 ?_
    clear H40; intro a41 H41
    refine qplain (y_ixR rfl Try.underlying30 z_size38 rfl rfl (by omega) (by omega) (rd_row (by repeat (first | exact Mh | apply Mt))) (by rw [Pool.wc_len hY.wl]; omega)) rfl rfl rfl H41 ?_
    clear H41; intro a42 H42
    refine qplain (y_fieldS rfl z_field38_0 rfl (rd_row (by repeat (first | exact Mh | apply Mt))) (by rw [Pool.wc_len hY.wl]; omega)) rfl rfl rfl H42 ?_
    clear H42; intro a43 H43
    refine qplain (y_fieldS rfl z_field36_0 rfl (rd_row (by repeat (first | exact Mh | apply Mt))) (by rw [Pool.wc_len hY.wl]; omega)) rfl rfl rfl H43 ?_
    clear H43; intro a44 H44
    refine qplain (y_loadR rfl z_agg3 rfl (rd_row (by repeat (first | exact Mh | apply Mt))) (by simp only [Int.toNat_natCast, Nat.zero_add, Nat.add_zero]; exact Pool.wc_src hY.wl (by omega))) rfl rfl rfl H44 ?_
    clear H44; intro a45 H45
    refine qplain (y_ixL rfl Try.underlying23 z_size3 rfl rfl (by omega) (by omega) rfl) rfl rfl rfl H45 ?_
    clear H45; intro a46 H46
    refine qplain (y_loadB rfl z_agg3 rfl (by repeat (first | exact Mh | apply Mt)) (i64_getI nx _ (by omega) (by omega))) rfl rfl rfl H46 ?_
    clear H46; intro a47 H47
    refine qplain (y_eql rfl rfl rfl) rfl rfl rfl H47 ?_
    clear H47; intro a48 H48
    refine qfin H48 ?_
    clear H48; intro wx49 H49
    refine then_n ?_
    refine cnd H49 rfl (fun hc50 => ?_) (fun hc50 => ?_) -- cond 3
    · skip
      try simp only [decide_eq_true_eq, decide_eq_false_iff_not, Bool.not_eq_true', Bool.not_eq_false', Bool.and_eq_true, Bool.not_eq_true, Bool.not_eq_false] at hc50
      have isSet := True.intro
      refine hreg [It.blk b29 23 [.slice (some ⟨b28, 0, none⟩) 64 64], It.row 38 76 (.slice ArA s.p.L.length crA) s.p.L.length (Pool.wc s.p.L)] (fun _ h => (h.sub (by first | exact S0 | exact S1 | repeat (first | exact S1 | exact S0 | apply S2 | apply S3)))) (by kernel_rfl) H49 ?_
      clear H49; intro wx51 H51
      refine htake 0 rfl (by kernel_rfl) (y_loadB rfl z_agg23 rfl (by repeat (first | exact Mh | apply Mt)) q_ix_c1_0) rfl rfl rfl (fun _ h => (h.sub (by first | exact S0 | exact S1 | repeat (first | exact S1 | exact S0 | apply S2 | apply S3)))) H51 ?_
      clear H51; intro a52 H52
      refine htake 1 rfl (by kernel_rfl) (y_move rfl rfl) rfl rfl rfl (fun _ h => (h.sub (by first | exact S0 | exact S1 | repeat (first | exact S1 | exact S0 | apply S2 | apply S3)))) H52 ?_
      clear H52; intro a53 H53
      refine htake 2 rfl (by kernel_rfl) (y_move rfl rfl) rfl rfl rfl (fun _ h => (h.sub (by first | exact S0 | exact S1 | repeat (first | exact S1 | exact S0 | apply S2 | apply S3)))) H53 ?_
      clear H53; intro a54 H54
      refine htake 3 rfl (by kernel_rfl) (y_ixR rfl Try.underlying30 z_size38 rfl rfl (by omega) (by omega) (rd_row (by repeat (first | exact Mh | apply Mt))) (by rw [Pool.wc_len hY.wl]; omega)) rfl rfl rfl (fun _ h => (h.sub (by first | exact S0 | exact S1 | repeat (first | exact S1 | exact S0 | apply S2 | apply S3)))) H54 ?_
      clear H54; intro a55 H55
      refine htake 4 rfl (by kernel_rfl) (y_fieldS rfl z_field38_0 rfl (rd_row (by repeat (first | exact Mh | apply Mt))) (by rw [Pool.wc_len hY.wl]; omega)) rfl rfl rfl (fun _ h => (h.sub (by first | exact S0 | exact S1 | repeat (first | exact S1 | exact S0 | apply S2 | apply S3)))) H55 ?_
      clear H55; intro a56 H56
      refine htake 5 rfl (by kernel_rfl) (y_fieldS rfl z_field36_0 rfl (rd_row (by repeat (first | exact Mh | apply Mt))) (by rw [Pool.wc_len hY.wl]; omega)) rfl rfl rfl (fun _ h => (h.sub (by first | exact S0 | exact S1 | repeat (first | exact S1 | exact S0 | apply S2 | apply S3)))) H56 ?_
      clear H56; intro a57 H57
      refine htake 6 rfl (by kernel_rfl) (y_loadR rfl z_agg3 rfl (rd_row (by repeat (first | exact Mh | apply Mt))) (by simp only [Int.toNat_natCast, Nat.zero_add, Nat.add_zero]; exact Pool.wc_src hY.wl (by omega))) rfl rfl rfl (fun _ h => (h.sub (by first | exact S0 | exact S1 | repeat (first | exact S1 | exact S0 | apply S2 | apply S3)))) H57 ?_
      clear H57; intro a58 H58
      refine htake 7 rfl (by kernel_rfl) (y_move rfl rfl) rfl rfl rfl (fun _ h => (h.sub (by first | exact S0 | exact S1 | repeat (first | exact S1 | exact S0 | apply S2 | apply S3)))) H58 ?_
      clear H58; intro a59 H59
      refine htake 8 rfl (by kernel_rfl) (y_move rfl rfl) rfl rfl rfl (fun _ h => (h.sub (by first | exact S0 | exact S1 | repeat (first | exact S1 | exact S0 | apply S2 | apply S3)))) H59 ?_
      clear H59; intro a60 H60
      refine htake 9 rfl (by kernel_rfl) (y_ixR rfl Try.underlying30 z_size38 rfl rfl (by omega) (by omega) (rd_row (by repeat (first | exact Mh | apply Mt))) (by rw [Pool.wc_len hY.wl]; omega)) rfl rfl rfl (fun _ h => (h.sub (by first | exact S0 | exact S1 | repeat (first | exact S1 | exact S0 | apply S2 | apply S3)))) H60 ?_
      clear H60; intro a61 H61
      refine htake 10 rfl (by kernel_rfl) (y_fieldS rfl z_field38_0 rfl (rd_row (by repeat (first | exact Mh | apply Mt))) (by rw [Pool.wc_len hY.wl]; omega)) rfl rfl rfl (fun _ h => (h.sub (by first | exact S0 | exact S1 | repeat (first | exact S1 | exact S0 | apply S2 | apply S3)))) H61 ?_
      clear H61; intro a62 H62
      refine htake 11 rfl (by kernel_rfl) (y_fieldS rfl z_field36_1 rfl (rd_row (by repeat (first | exact Mh | apply Mt))) (by rw [Pool.wc_len hY.wl]; omega)) rfl rfl rfl (fun _ h => (h.sub (by first | exact S0 | exact S1 | repeat (first | exact S1 | exact S0 | apply S2 | apply S3)))) H62 ?_
      clear H62; intro a63 H63
      refine htake 12 rfl (by kernel_rfl) (y_loadR rfl z_agg3 rfl (rd_row (by repeat (first | exact Mh | apply Mt))) (by simp only [Int.toNat_natCast, Nat.zero_add, Nat.add_zero]; exact (show _ = some (i64 (s.p.L.getD k Pool.Wait.zero).tx.nonce) from Pool.wc_at (c := 1) hY.wl (by omega) (by omega)))) rfl rfl rfl (fun _ h => (h.sub (by first | exact S0 | exact S1 | repeat (first | exact S1 | exact S0 | apply S2 | apply S3)))) H63 ?_
      clear H63; intro a64 H64
      refine htake 13 rfl (by kernel_rfl) (y_ixL rfl Try.underlying23 z_size3 rfl rfl (by omega) (by omega) rfl) rfl rfl rfl (fun _ h => (h.sub (by first | exact S0 | exact S1 | repeat (first | exact S1 | exact S0 | apply S2 | apply S3)))) H64 ?_
      clear H64; intro a65 H65
      refine hgo 14 rfl (by kernel_rfl) ?_
      refine st_store1 rfl z_size3 rfl rfl rfl (by repeat (first | exact Uh | apply Ut)) (by rw [List.length_map]; omega) rfl rfl H65 ?_
      clear H65; intro wx66 H66
      refine hfinA H66.sep ?_
      refine hdone (by kernel_rfl) ?_
      refine inb_n ?_
      refine then_n ?_
      refine reg ?_
      refine plain (y_move rfl rfl) rfl rfl rfl H66 ?_
      clear H66; intro a67 H67
      refine plain (y_add rfl rfl rfl (by first | exact w64 (by omega) (by omega) | rfl)) rfl rfl rfl H67 ?_
      clear H67; intro a68 H68
      refine plain (y_assign rfl rfl) rfl rfl rfl H68 ?_
      clear H68; intro a69 H69
      refine fin ?_
      refine then_n ?_
      first | (have hz := isSet; exact ⟨(k + 1, nx.set (s.p.L.getD k Pool.Wait.zero).tx.src.toNat (s.p.L.getD k Pool.Wait.zero).tx.nonce), by dsimp only; omega, ⟨by dsimp only; omega, by dsimp only; rw [List.length_set]; exact h64⟩, H69.weak ⟨rfl, rfl, rfl, rfl, fi rfl (by dsimp only; omega), trivial⟩ (ib2 rfl (ib (i64_set nx _ _)))⟩) | (have hz := isNot; exact ⟨(k + 1, nx), by dsimp only; omega, ⟨by dsimp only; omega, h64⟩, H69.weak ⟨rfl, rfl, rfl, rfl, fi rfl (by dsimp only; omega), trivial⟩ rfl⟩)
    · skip
      try simp only [decide_eq_true_eq, decide_eq_false_iff_not, Bool.not_eq_true', Bool.not_eq_false', Bool.and_eq_true, Bool.not_eq_true, Bool.not_eq_false] at hc50
      have isNot := True.intro
      refine wp_skip ?_
      refine inb_n ?_
      refine then_n ?_
      refine reg ?_
      refine plain (y_move rfl rfl) rfl rfl rfl H49 ?_
      clear H49; intro a70 H70
      refine plain (y_add rfl rfl rfl (by first | exact w64 (by omega) (by omega) | rfl)) rfl rfl rfl H70 ?_
      clear H70; intro a71 H71
      refine plain (y_assign rfl rfl) rfl rfl rfl H71 ?_
      clear H71; intro a72 H72
      refine fin ?_
      refine then_n ?_
      first | (have hz := isSet; exact ⟨(k + 1, nx.set (s.p.L.getD k Pool.Wait.zero).tx.src.toNat (s.p.L.getD k Pool.Wait.zero).tx.nonce), by dsimp only; omega, ⟨by dsimp only; omega, by dsimp only; rw [List.length_set]; exact h64⟩, H72.weak ⟨rfl, rfl, rfl, rfl, fi rfl (by dsimp only; omega), trivial⟩ (ib2 rfl (ib (i64_set nx _ _)))⟩) | (have hz := isNot; exact ⟨(k + 1, nx), by dsimp only; omega, ⟨by dsimp only; omega, h64⟩, H72.weak ⟨rfl, rfl, rfl, rfl, fi rfl (by dsimp only; omega), trivial⟩ rfl⟩)
  · skip
    try simp only [decide_eq_true_eq, decide_eq_false_iff_not, Bool.not_eq_true', Bool.not_eq_false', Bool.and_eq_true, Bool.not_eq_true, Bool.not_eq_false] at hc37
    refine wp_exit ?_
    refine then_x ?_
    refine then_x ?_
    refine inb_hit ?_
    refine then_n ?_
    refine wp_seq ?_
    have hpw := Pool.next_wf (size := z + 1) hY.wl nx now
    have hq1 := hpw.2.tx.hand
    have hq2 := hpw.2.tx.tag
    refine reg ?_
    refine plain (y_move rfl rfl) rfl rfl rfl H36 ?_
    clear H36; intro a73 H73
    refine plain (y_move rfl rfl) rfl rfl rfl H73 ?_
    clear H73; intro a74 H74
    refine plain (y_fn rfl rfl rfl) rfl rfl rfl H74 ?_
    clear H74; intro a75 H75
    refine st_callk2 (is := [It.row 38 76 v s.p.L.length (Pool.wc s.p.L), It.blk bp 63 [i64 (z + 1), v]]) (enters_call rfl z_call15 rfl) rfl rfl rfl H75 (.cons (by repeat (first | exact Ph | apply Pt)) (.cons (by repeat (first | exact Ph | apply Pt)) (.nil _))) (fun hs => pnext s.p.L hY.wl (z + 1) bp v hlen hY.good nx now 22 (.pointer (some ⟨b29, 0, none⟩)) hs (by kernel_rfl) (fun w' hF q hq => pwac nx h64 b29 (some ⟨b28, 0, none⟩) 64 q hq (Sep.kept H75.sep (.cons (by repeat (first | exact Ph | apply Pt)) (.cons (by repeat (first | exact Ph | apply Pt)) (.nil _))) (by repeat (first | exact Mh | apply Mt)) hF) (rd_it (Sep.kept (j := It.blk b28 3 (nx.map i64)) H75.sep (.cons (by repeat (first | exact Ph | apply Pt)) (.cons (by repeat (first | exact Ph | apply Pt)) (.nil _))) (by repeat (first | exact Mh | apply Mt)) hF)))) ?_
    clear H75; intro v76 l76 a76 wx76 hf76 H76
    obtain ⟨rfl, v1, rfl⟩ := hf76
    simp only [List.cons_append, List.nil_append] at H76
    refine plain (y_move rfl rfl) rfl rfl rfl H76 ?_
    clear H76; intro a77 H77
    refine plain (y_extract rfl rfl rfl) rfl rfl rfl H77 ?_
    clear H77; intro a78 H78
    refine plain (y_extract rfl rfl rfl) rfl rfl rfl H78 ?_
    clear H78; intro a79 H79
    refine st_alloc rfl z_zeroN38 rfl rfl rfl H79 ?_
    clear H79; intro b80 a80 wx80 H80
    refine st_storeN rfl z_size38 rfl rfl (agg_cells _) (by repeat (first | exact Uh | apply Ut)) (q_one_c8b32b32c4 rfl rfl rfl rfl rfl rfl rfl rfl rfl rfl rfl rfl) (q_len_c8b32b32c4 (by assumption) (by assumption)) (q_len_c8b32b32c4 (by assumption) (by assumption)) (q_spl_c8b32b32c4_0_c8b32b32c4 (by assumption) (by assumption) (by assumption) (by assumption)) (by decide) rfl rfl H80 ?_
    clear H80; intro wx81 H81
    refine plain (y_assign rfl rfl) rfl rfl rfl H81 ?_
    clear H81; intro a82 H82
    refine fin ?_
    refine then_n ?_
    refine wp_seq ?_
    refine wp_seq ?_
    refine reg ?_
    refine plain (y_move rfl rfl) rfl rfl rfl H82 ?_
    clear H82; intro a83 H83
    refine plain ((by first | exact y_not_d rfl rfl | exact y_not rfl rfl)) rfl rfl rfl H83 ?_
    clear H83; intro a84 H84
    refine fin ?_
    refine then_n ?_
    refine cnd H84 rfl (fun hc85 => ?_) (fun hc85 => ?_) -- cond 4
    · skip
      try simp only [decide_eq_true_eq, decide_eq_false_iff_not, Bool.not_eq_true', Bool.not_eq_false', Bool.and_eq_true, Bool.not_eq_true, Bool.not_eq_false] at hc85
      have hno := hc85
      refine wp_seq ?_
      have hz0 := Pool.next_zero hno
      have hz1 := Pool.next_no_L hno
      rw [hz1] at H84
      refine reg ?_
      refine plain (y_loadAB rfl z_agg38 z_size38 rfl (by repeat (first | exact Mh | apply Mt)) (q_ld_c8b32b32c4_0_76 (by assumption) (by assumption)) (q_len_c8b32b32c4 (by assumption) (by assumption))) rfl rfl rfl H84 ?_
      clear H84; intro a86 H86
      refine plain (y_build rfl z_zeroN38 z_places38 rfl lay_n) rfl rfl rfl H86 ?_
      clear H86; intro a87 H87
      refine plain (y_teql rfl (by kernel_rfl) rfl rfl (eqr_Wait (Pool.next ⟨z + 1, s.p.L⟩ nx now).2.1 Pool.Wait.zero hq1 rfl hq2 rfl)) rfl rfl rfl H87 ?_
      clear H87; intro a88 H88
      refine plain (y_move rfl rfl) rfl rfl rfl H88 ?_
      clear H88; intro a89 H89
      have H91 := H89.know (d := 78) (v := .bool true) rfl (congrArg Value.bool (decide_eq_true hz0))
      clear H89
      refine plain (y_move rfl rfl) rfl rfl rfl H91 ?_
      clear H91; intro a92 H92
      refine plain (y_move rfl rfl) rfl rfl rfl H92 ?_
      clear H92; intro a93 H93
      refine st_call rfl z_call18 rfl rfl rfl rfl H93 (pall s.p.L hY.wl (z + 1) bp v1 hlen (H93.sep.all _ (by repeat (first | exact Mh | apply Mt))) (H93.sep.all _ (by repeat (first | exact Mh | apply Mt)))) ?_
      clear H93; intro v94 l94 a94 wx94 hf94 H94
      obtain rfl := hf94
      simp only [List.cons_append, List.nil_append] at H94
      obtain ⟨ArB, crB, hvrB, hRrB, hmrB⟩ := row_shape (v := v94) H94.sep (by repeat (first | exact Mh | apply Mt))
      subst hvrB
      refine st_callg rfl z_call12 rfl rfl rfl rfl H94 (xsame s.p.L hY.wl ArA ArB crA crB hlen (Rd.ofSep (rd_row (by repeat (first | exact Mh | apply Mt))) H94.sep) (Rd.ofSep (rd_row (by repeat (first | exact Mh | apply Mt))) H94.sep)) ?_
      clear H94; intro a95 wx95 H95
      refine plain (y_pick_t rfl rfl rfl) rfl rfl rfl H95 ?_
      clear H95; intro a96 H96
      refine plain (y_assign rfl rfl) rfl rfl rfl H96 ?_
      clear H96; intro a97 H97
      refine fin ?_
      refine then_n ?_
      refine wp_ret ?_
      refine then_r ?_
      -- return 1
      refine ret1 rfl H97 rfl ?_
      exact ⟨_, [], rfl, ⟨rfl, rfl⟩, H97.sep.sub (List.nil_sublist _)⟩
    · skip
      try simp only [decide_eq_true_eq, decide_eq_false_iff_not, Bool.not_eq_true', Bool.not_eq_false', Bool.and_eq_true, Bool.not_eq_true, Bool.not_eq_false] at hc85
      have hyes := hc85
      refine wp_skip ?_
      refine then_n ?_
      refine wp_seq ?_
      refine wp_seq ?_
      have hnt := Pool.next_time hyes
      have hrX := Pool.right_src (Pool.next_src hY.good hyes).1
      refine qreg (by kernel_rfl) (by kernel_rfl) H84 ?_
      have F98 := H84.fr
      clear H84
      refine qplain (y_fieldB rfl z_field38_3 rfl (by first | (simp only [Nat.zero_add, Nat.add_zero, Nat.reduceAdd]; rfl) | rfl)) rfl rfl rfl F98 ?_
      clear F98; intro a99 H99
      refine qplain (y_loadB rfl z_agg3 rfl (by repeat (first | exact Mh | apply Mt)) (q_ix_c8b32b32c4_74 (by assumption) (by assumption))) rfl rfl rfl H99 ?_
      clear H99; intro a100 H100
      refine qplain (y_move rfl rfl) rfl rfl rfl H100 ?_
      clear H100; intro a101 H101
      refine qplain (y_gtr rfl rfl rfl) rfl rfl rfl H101 ?_
      clear H101; intro a102 H102
      refine qplain (y_move rfl rfl) rfl rfl rfl H102 ?_
      clear H102; intro a103 H103
      have H105 := H103.know (d := 88) (v := .bool false) rfl (congrArg Value.bool (by first | exact decide_eq_false (by omega) | rfl | (simp; done) | (simp; omega)))
      clear H103
      refine qplain (y_fieldB rfl z_field38_0 rfl (by first | (simp only [Nat.zero_add, Nat.add_zero, Nat.reduceAdd]; rfl) | rfl)) rfl rfl rfl H105 ?_
      clear H105; intro a106 H106
      refine qplain (y_fieldB rfl z_field36_1 rfl (by first | (simp only [Nat.zero_add, Nat.add_zero, Nat.reduceAdd]; rfl) | rfl)) rfl rfl rfl H106 ?_
      clear H106; intro a107 H107
      refine qplain (y_loadB rfl z_agg3 rfl (by repeat (first | exact Mh | apply Mt)) q_ix_c8b32b32c4_1) rfl rfl rfl H107 ?_
      clear H107; intro a108 H108
      refine qplain (y_loadB rfl z_agg23 rfl (by repeat (first | exact Mh | apply Mt)) q_ix_c1_0) rfl rfl rfl H108 ?_
      clear H108; intro a109 H109
      refine qplain (y_fieldB rfl z_field38_0 rfl (by first | (simp only [Nat.zero_add, Nat.add_zero, Nat.reduceAdd]; rfl) | rfl)) rfl rfl rfl H109 ?_
      clear H109; intro a110 H110
      refine qplain (y_fieldB rfl z_field36_0 rfl (by first | (simp only [Nat.zero_add, Nat.add_zero, Nat.reduceAdd]; rfl) | rfl)) rfl rfl rfl H110 ?_
      clear H110; intro a111 H111
      refine qplain (y_loadB rfl z_agg3 rfl (by repeat (first | exact Mh | apply Mt)) q_ix_c8b32b32c4_0) rfl rfl rfl H111 ?_
      clear H111; intro a112 H112
      refine qplain (y_ixL rfl Try.underlying23 z_size3 rfl rfl (by omega) (by omega) rfl) rfl rfl rfl H112 ?_
      clear H112; intro a113 H113
      refine qplain (y_loadB rfl z_agg3 rfl (by repeat (first | exact Mh | apply Mt)) (i64_getI nx _ (by omega) (by omega))) rfl rfl rfl H113 ?_
      clear H113; intro a114 H114
      refine qplain (y_neq rfl rfl rfl) rfl rfl rfl H114 ?_
      clear H114; intro a115 H115
      refine qplain (y_pick_f rfl rfl rfl) rfl rfl rfl H115 ?_
      clear H115; intro a116 H116
      refine qplain (y_move rfl rfl) rfl rfl rfl H116 ?_
      clear H116; intro a117 H117
      have H119 := H117.know (d := 100) (v := .bool false) rfl (congrArg Value.bool (by first | exact decide_eq_false (fun q => q hnt.2.1) | rfl | (simp; done) | (simp; omega)))
      clear H117
      refine qplain (y_move rfl rfl) rfl rfl rfl H119 ?_
      clear H119; intro a120 H120
      refine qcallg rfl z_call19 rfl rfl rfl rfl H120 (fun w hs => (plen (Pool.next ⟨z + 1, s.p.L⟩ nx now).1.L hpw.1 (z + 1) bp v1 (by omega) (hs.all _ (by repeat (first | exact Mh | apply Mt))) (hs.all _ (by repeat (first | exact Mh | apply Mt))))) ?_
      clear H120; intro a121 H121
      refine qplain (y_move rfl rfl) rfl rfl rfl H121 ?_
      clear H121; intro a122 H122
      refine qplain (y_len rfl Try.underlying30 rfl) rfl rfl rfl H122 ?_
      clear H122; intro a123 H123
      refine qplain (y_sub rfl rfl rfl (by first | exact w64 (by omega) (by omega) | rfl)) rfl rfl rfl H123 ?_
      clear H123; intro a124 H124
      refine qplain (y_neq rfl rfl rfl) rfl rfl rfl H124 ?_
      clear H124; intro a125 H125
      refine qplain (y_pick_f rfl rfl rfl) rfl rfl rfl H125 ?_
      clear H125; intro a126 H126
      refine qfin H126 ?_
      clear H126; intro wx127 H127
      refine then_n ?_
      refine cnd H127 rfl (fun hc128 => ?_) (fun hc128 => ?_) -- cond 5
      · (try simp only [decide_eq_true_eq, decide_eq_false_iff_not, Bool.not_eq_true', Bool.not_eq_false', Bool.and_eq_true, Bool.not_eq_true, Bool.not_eq_false] at hc128); (exfalso; omega)
      · skip
        try simp only [decide_eq_true_eq, decide_eq_false_iff_not, Bool.not_eq_true', Bool.not_eq_false', Bool.and_eq_true, Bool.not_eq_true, Bool.not_eq_false] at hc128
        refine wp_skip ?_
        refine then_n ?_
        refine wp_seq ?_
        refine wp_seq ?_
        refine reg ?_
        refine plain (y_assign rfl rfl) rfl rfl rfl H127 ?_
        clear H127; intro a129 H129
        refine fin ?_
        refine then_n ?_
        refine wp_block ?_
        replace H129 := (H129.only (is := [It.blk b80 38 (Pool.Wait.cells (Pool.next ⟨z + 1, s.p.L⟩ nx now).2.1), It.blk b29 23 [.slice (some ⟨b28, 0, none⟩) 64 64], It.blk b28 3 (nx.map i64), It.row 38 76 (.slice ArA s.p.L.length crA) s.p.L.length (Pool.wc s.p.L)]) (.cons (by repeat (first | exact Ph | apply Pt)) (.cons (by repeat (first | exact Ph | apply Pt)) (.cons (by repeat (first | exact Ph | apply Pt)) (.cons (by repeat (first | exact Ph | apply Pt)) (.nil _))))))
        refine loop (ι := Nat) (fun k => [(2, .int .i64 now), (9, .pointer (some ⟨bp, 0, none⟩)), (11, (.slice ArA s.p.L.length crA)), (12, .pointer (some ⟨b29, 0, none⟩)), (14, .pointer (some ⟨b80, 0, none⟩)), (16, .int .i64 (k : Int))]) (fun k => [It.blk b80 38 (Pool.Wait.cells (Pool.next ⟨z + 1, s.p.L⟩ nx now).2.1), It.blk b29 23 [.slice (some ⟨b28, 0, none⟩) 64 64], It.blk b28 3 (nx.map i64), It.row 38 76 (.slice ArA s.p.L.length crA) s.p.L.length (Pool.wc s.p.L)]) (fun k => k ≤ s.p.L.length) (fun k => s.p.L.length - k) (0) (Nat.zero_le _) (H129.weak ⟨rfl, rfl, rfl, rfl, rfl, rfl, trivial⟩ rfl) ?_
        clear H129; intro k a130 wx130 hok130 H130
        have hok := hok130
        refine wp_seq ?_
        refine wp_seq ?_
        refine reg ?_
        refine plain (y_move rfl rfl) rfl rfl rfl H130 ?_
        clear H130; intro a131 H131
        refine plain (y_move rfl rfl) rfl rfl rfl H131 ?_
        clear H131; intro a132 H132
        refine plain (y_len rfl Try.underlying30 rfl) rfl rfl rfl H132 ?_
        clear H132; intro a133 H133
        refine plain (y_lss rfl rfl rfl) rfl rfl rfl H133 ?_
        clear H133; intro a134 H134
        refine fin ?_
        refine then_n ?_
        refine cnd H134 rfl (fun hc135 => ?_) (fun hc135 => ?_) -- cond 6
        · skip
          try simp only [decide_eq_true_eq, decide_eq_false_iff_not, Bool.not_eq_true', Bool.not_eq_false', Bool.and_eq_true, Bool.not_eq_true, Bool.not_eq_false] at hc135
          refine wp_skip ?_
          refine then_n ?_
          refine wp_seq ?_
          refine wp_block ?_
          refine wp_seq ?_
          have hkl : k < s.p.L.length := by omega
          have hwk := hY.wl.at_ hkl
          have whd := hwk.tx.hand
          have wtg := hwk.tx.tag
          have hri := hY.good.right _ (Pool.mem_getD (L := s.p.L) hkl)
          have hrs := Pool.right_src hri
          refine qreg (by kernel_rfl) (by kernel_rfl) H134 ?_
          have F136 := H134.fr
          clear H134
          refine qplain (y_move rfl rfl) rfl rfl rfl F136 ?_
          clear F136; intro a137 H137
          refine qplain (y_move rfl rfl) rfl rfl rfl H137 ?_
          clear H137; intro a138 H138
          refine qplain (y_ixR rfl Try.underlying30 z_size38 rfl rfl (by omega) (by omega) (rd_row (by repeat (first | exact Mh | apply Mt))) (by rw [Pool.wc_len hY.wl]; omega)) rfl rfl rfl H138 ?_
          clear H138; intro a139 H139
          refine qplain (y_fieldS rfl z_field38_3 rfl (rd_row (by repeat (first | exact Mh | apply Mt))) (by rw [Pool.wc_len hY.wl]; omega)) rfl rfl rfl H139 ?_
          clear H139; intro a140 H140
          refine qplain (y_loadR rfl z_agg3 rfl (rd_row (by repeat (first | exact Mh | apply Mt))) (by simp only [Int.toNat_natCast, Nat.zero_add, Nat.add_zero]; exact (Pool.wc_at (c := 74) hY.wl (by omega) (by omega)).trans (Pool.at_end (hY.wl.at_ (by omega))).2.2.1)) rfl rfl rfl H140 ?_
          clear H140; intro a141 H141
          refine qplain (y_move rfl rfl) rfl rfl rfl H141 ?_
          clear H141; intro a142 H142
          refine qplain (y_leq rfl rfl rfl) rfl rfl rfl H142 ?_
          clear H142; intro a143 H143
          refine qplain (y_move rfl rfl) rfl rfl rfl H143 ?_
          clear H143; intro a144 H144
          refine qpart (d := 121) H144 rfl (fun hg145 => ?_) (fun hg145 => ?_)
          · first
            | fail
            | skip
              clear H144; intro H146
              try simp only [decide_eq_true_eq, decide_eq_false_iff_not, Bool.not_eq_true', Bool.not_eq_false', Bool.and_eq_true, Bool.not_eq_true, Bool.not_eq_false] at hg145
              refine qplain (y_move rfl rfl) rfl rfl rfl H146 ?_
              clear H146; intro a147 H147
              refine qplain (y_move rfl rfl) rfl rfl rfl H147 ?_
              clear H147; intro a148 H148
              refine qplain (y_ixR rfl Try.underlying30 z_size38 rfl rfl (by omega) (by omega) (rd_row (by repeat (first | exact Mh | apply Mt))) (by rw [Pool.wc_len hY.wl]; omega)) rfl rfl rfl H148 ?_
              clear H148; intro a149 H149
              refine qplain (y_fieldS rfl z_field38_0 rfl (rd_row (by repeat (first | exact Mh | apply Mt))) (by rw [Pool.wc_len hY.wl]; omega)) rfl rfl rfl H149 ?_
              clear H149; intro a150 H150
              refine qplain (y_fieldS rfl z_field36_1 rfl (rd_row (by repeat (first | exact Mh | apply Mt))) (by rw [Pool.wc_len hY.wl]; omega)) rfl rfl rfl H150 ?_
              clear H150; intro a151 H151
              refine qplain (y_loadR rfl z_agg3 rfl (rd_row (by repeat (first | exact Mh | apply Mt))) (by simp only [Int.toNat_natCast, Nat.zero_add, Nat.add_zero]; exact (show _ = some (i64 (s.p.L.getD k Pool.Wait.zero).tx.nonce) from Pool.wc_at (c := 1) hY.wl (by omega) (by omega)))) rfl rfl rfl H151 ?_
              clear H151; intro a152 H152
              refine qplain (y_loadB rfl z_agg23 rfl (by repeat (first | exact Mh | apply Mt)) q_ix_c1_0) rfl rfl rfl H152 ?_
              clear H152; intro a153 H153
              refine qplain (y_move rfl rfl) rfl rfl rfl H153 ?_
              clear H153; intro a154 H154
              refine qplain (y_move rfl rfl) rfl rfl rfl H154 ?_
              clear H154; intro a155 H155
              refine qplain (y_ixR rfl Try.underlying30 z_size38 rfl rfl (by omega) (by omega) (rd_row (by repeat (first | exact Mh | apply Mt))) (by rw [Pool.wc_len hY.wl]; omega)) rfl rfl rfl H155 ?_
              clear H155; intro a156 H156
              refine qplain (y_fieldS rfl z_field38_0 rfl (rd_row (by repeat (first | exact Mh | apply Mt))) (by rw [Pool.wc_len hY.wl]; omega)) rfl rfl rfl H156 ?_
              clear H156; intro a157 H157
              refine qplain (y_fieldS rfl z_field36_0 rfl (rd_row (by repeat (first | exact Mh | apply Mt))) (by rw [Pool.wc_len hY.wl]; omega)) rfl rfl rfl H157 ?_
              clear H157; intro a158 H158
              refine qplain (y_loadR rfl z_agg3 rfl (rd_row (by repeat (first | exact Mh | apply Mt))) (by simp only [Int.toNat_natCast, Nat.zero_add, Nat.add_zero]; exact Pool.wc_src hY.wl (by omega))) rfl rfl rfl H158 ?_
              clear H158; intro a159 H159
              refine qplain (y_ixL rfl Try.underlying23 z_size3 rfl rfl (by omega) (by omega) rfl) rfl rfl rfl H159 ?_
              clear H159; intro a160 H160
              refine qplain (y_loadB rfl z_agg3 rfl (by repeat (first | exact Mh | apply Mt)) (i64_getI nx _ (by omega) (by omega))) rfl rfl rfl H160 ?_
              clear H160; intro a161 H161
              refine qplain (y_eql rfl rfl rfl) rfl rfl rfl H161 ?_
              clear H161; intro a162 H162
              refine qplain (y_pick_t rfl rfl rfl) rfl rfl rfl H162 ?_
              clear H162; intro a163 H163
              refine qplain (y_move rfl rfl) rfl rfl rfl H163 ?_
              clear H163; intro a164 H164
              refine qpart (d := 139) H164 rfl (fun hg165 => ?_) (fun hg165 => ?_)
              · first
                | fail
                | skip
                  clear H164; intro H166
                  try simp only [decide_eq_true_eq, decide_eq_false_iff_not, Bool.not_eq_true', Bool.not_eq_false', Bool.and_eq_true, Bool.not_eq_true, Bool.not_eq_false] at hg165
                  refine qplain (y_move rfl rfl) rfl rfl rfl H166 ?_
                  clear H166; intro a167 H167
                  refine qplain (y_move rfl rfl) rfl rfl rfl H167 ?_
                  clear H167; intro a168 H168
                  refine qplain (y_ixR rfl Try.underlying30 z_size38 rfl rfl (by omega) (by omega) (rd_row (by repeat (first | exact Mh | apply Mt))) (by rw [Pool.wc_len hY.wl]; omega)) rfl rfl rfl H168 ?_
                  clear H168; intro a169 H169
                  refine qplain (y_loadAS rfl z_agg38 z_size38 rfl (rd_row (by repeat (first | exact Mh | apply Mt))) (show _ = Pool.Wait.cells (s.p.L.getD k Pool.Wait.zero) from Pool.wc_take hY.wl k hkl) hwk.len (by decide)) rfl rfl rfl H169 ?_
                  clear H169; intro a170 H170
                  refine qplain (y_loadAB rfl z_agg38 z_size38 rfl (by repeat (first | exact Mh | apply Mt)) (q_ld_c8b32b32c4_0_76 (by assumption) (by assumption)) (q_len_c8b32b32c4 (by assumption) (by assumption))) rfl rfl rfl H170 ?_
                  clear H170; intro a171 H171
                  refine qcallg rfl z_call21 rfl rfl rfl rfl H171 (fun w hs => (xless (s.p.L.getD k Pool.Wait.zero) (Pool.next ⟨z + 1, s.p.L⟩ nx now).2.1 hwk hpw.2 _)) ?_
                  clear H171; intro a172 H172
                  refine qplain (y_pick_t rfl rfl rfl) rfl rfl rfl H172 ?_
                  clear H172; intro a173 H173
                  refine qfin H173 ?_
                  clear H173; intro wx174 H174
                  refine then_n ?_
                  refine cnd H174 rfl (fun hc175 => ?_) (fun hc175 => ?_) -- cond 7
                  · (try simp only [decide_eq_true_eq, decide_eq_false_iff_not, Bool.not_eq_true', Bool.not_eq_false', Bool.and_eq_true, Bool.not_eq_true, Bool.not_eq_false] at hc175); (exfalso; exact hnt.2.2.2 k hkl (by assumption) (by assumption) hc175)
                  · skip
                    try simp only [decide_eq_true_eq, decide_eq_false_iff_not, Bool.not_eq_true', Bool.not_eq_false', Bool.and_eq_true, Bool.not_eq_true, Bool.not_eq_false] at hc175
                    refine wp_skip ?_
                    refine inb_n ?_
                    refine then_n ?_
                    refine reg ?_
                    refine plain (y_move rfl rfl) rfl rfl rfl H174 ?_
                    clear H174; intro a176 H176
                    refine plain (y_add rfl rfl rfl (by first | exact w64 (by omega) (by omega) | rfl)) rfl rfl rfl H176 ?_
                    clear H176; intro a177 H177
                    refine plain (y_assign rfl rfl) rfl rfl rfl H177 ?_
                    clear H177; intro a178 H178
                    refine fin ?_
                    refine then_n ?_
                    exact ⟨k + 1, by omega, by omega, H178.weak ⟨rfl, rfl, rfl, rfl, rfl, fi rfl (by omega), trivial⟩ rfl⟩
              · first
                | fail
                | skip
                  clear H164; intro H179
                  try simp only [decide_eq_true_eq, decide_eq_false_iff_not, Bool.not_eq_true', Bool.not_eq_false', Bool.and_eq_true, Bool.not_eq_true, Bool.not_eq_false] at hg165
                  refine qskip rfl rfl rfl H179 ?_
                  clear H179; intro a180 H180
                  refine qskip rfl rfl rfl H180 ?_
                  clear H180; intro a181 H181
                  refine qskip rfl rfl rfl H181 ?_
                  clear H181; intro a182 H182
                  refine qskip rfl rfl rfl H182 ?_
                  clear H182; intro a183 H183
                  refine qskip rfl rfl rfl H183 ?_
                  clear H183; intro a184 H184
                  refine qskip rfl rfl rfl H184 ?_
                  clear H184; intro a185 H185
                  refine qplain (y_pick_f rfl rfl rfl) rfl rfl rfl H185 ?_
                  clear H185; intro a186 H186
                  refine qfin H186 ?_
                  clear H186; intro wx187 H187
                  refine then_n ?_
                  refine cnd_f H187 rfl ?_
                  refine wp_skip ?_
                  refine inb_n ?_
                  refine then_n ?_
                  refine reg ?_
                  refine plain (y_move rfl rfl) rfl rfl rfl H187 ?_
                  clear H187; intro a189 H189
                  refine plain (y_add rfl rfl rfl (by first | exact w64 (by omega) (by omega) | rfl)) rfl rfl rfl H189 ?_
                  clear H189; intro a190 H190
                  refine plain (y_assign rfl rfl) rfl rfl rfl H190 ?_
                  clear H190; intro a191 H191
                  refine fin ?_
                  refine then_n ?_
                  exact ⟨k + 1, by omega, by omega, H191.weak ⟨rfl, rfl, rfl, rfl, rfl, fi rfl (by omega), trivial⟩ rfl⟩
          · first
            | fail
            | skip
              clear H144; intro H192
              try simp only [decide_eq_true_eq, decide_eq_false_iff_not, Bool.not_eq_true', Bool.not_eq_false', Bool.and_eq_true, Bool.not_eq_true, Bool.not_eq_false] at hg145
              refine qskip rfl rfl rfl H192 ?_
              clear H192; intro a193 H193
              refine qskip rfl rfl rfl H193 ?_
              clear H193; intro a194 H194
              refine qskip rfl rfl rfl H194 ?_
              clear H194; intro a195 H195
              refine qskip rfl rfl rfl H195 ?_
              clear H195; intro a196 H196
              refine qskip rfl rfl rfl H196 ?_
              clear H196; intro a197 H197
              refine qskip rfl rfl rfl H197 ?_
              clear H197; intro a198 H198
              refine qskip rfl rfl rfl H198 ?_
              clear H198; intro a199 H199
              refine qskip rfl rfl rfl H199 ?_
              clear H199; intro a200 H200
              refine qskip rfl rfl rfl H200 ?_
              clear H200; intro a201 H201
              refine qskip rfl rfl rfl H201 ?_
              clear H201; intro a202 H202
              refine qskip rfl rfl rfl H202 ?_
              clear H202; intro a203 H203
              refine qskip rfl rfl rfl H203 ?_
              clear H203; intro a204 H204
              refine qskip rfl rfl rfl H204 ?_
              clear H204; intro a205 H205
              refine qskip rfl rfl rfl H205 ?_
              clear H205; intro a206 H206
              refine qskip rfl rfl rfl H206 ?_
              clear H206; intro a207 H207
              refine qskip rfl rfl rfl H207 ?_
              clear H207; intro a208 H208
              refine qplain (y_pick_f rfl rfl rfl) rfl rfl rfl H208 ?_
              clear H208; intro a209 H209
              refine qplain (y_move rfl rfl) rfl rfl rfl H209 ?_
              clear H209; intro a210 H210
              refine qskip rfl rfl rfl H210 ?_
              clear H210; intro a211 H211
              refine qskip rfl rfl rfl H211 ?_
              clear H211; intro a212 H212
              refine qskip rfl rfl rfl H212 ?_
              clear H212; intro a213 H213
              refine qskip rfl rfl rfl H213 ?_
              clear H213; intro a214 H214
              refine qskip rfl rfl rfl H214 ?_
              clear H214; intro a215 H215
              refine qskip rfl rfl rfl H215 ?_
              clear H215; intro a216 H216
              refine qplain (y_pick_f rfl rfl rfl) rfl rfl rfl H216 ?_
              clear H216; intro a217 H217
              refine qfin H217 ?_
              clear H217; intro wx218 H218
              refine then_n ?_
              refine cnd_f H218 rfl ?_
              refine wp_skip ?_
              refine inb_n ?_
              refine then_n ?_
              refine reg ?_
              refine plain (y_move rfl rfl) rfl rfl rfl H218 ?_
              clear H218; intro a220 H220
              refine plain (y_add rfl rfl rfl (by first | exact w64 (by omega) (by omega) | rfl)) rfl rfl rfl H220 ?_
              clear H220; intro a221 H221
              refine plain (y_assign rfl rfl) rfl rfl rfl H221 ?_
              clear H221; intro a222 H222
              refine fin ?_
              refine then_n ?_
              exact ⟨k + 1, by omega, by omega, H222.weak ⟨rfl, rfl, rfl, rfl, rfl, fi rfl (by omega), trivial⟩ rfl⟩
        · skip
          try simp only [decide_eq_true_eq, decide_eq_false_iff_not, Bool.not_eq_true', Bool.not_eq_false', Bool.and_eq_true, Bool.not_eq_true, Bool.not_eq_false] at hc135
          refine wp_exit ?_
          refine then_x ?_
          refine then_x ?_
          refine inb_hit ?_
          refine then_n ?_
          refine wp_seq ?_
          refine reg ?_
          refine plain (y_assign rfl rfl) rfl rfl rfl H134 ?_
          clear H134; intro a223 H223
          refine fin ?_
          refine then_n ?_
          refine wp_ret ?_
          -- return 2
          refine ret1 rfl H223 rfl ?_
          exact ⟨_, [], rfl, ⟨rfl, rfl⟩, H223.sep.sub (List.nil_sublist _)⟩

end Go.Proofs.Ytbdkgmkaakoigaa.P_L5

set_option linter.unusedVariables false
set_option linter.unusedSimpArgs false
namespace Go.Proofs.Ytbdkgmkaakoigaa.P_Rd
open Go.Sx Go.RowKit

theorem u8n {H : Type} {enc : TypeId × Value → H} {P : Program} {W : World} {sp : Nat → Bool} {held : Bool} {t : TypeId} {cs : List Value} (h : Trw enc P W sp held t cs) (ht : P.underlying t = some (.int .u8)) : ∃ n : Int, cs = [.int .u8 n] ∧ 0 ≤ n ∧ n ≤ 255 := by
  obtain ⟨n, h1, h2⟩ := h.tr.int ht
  simp [Lit.wf, IntKind.min, IntKind.max, IntKind.bits, IntKind.signed] at h2
  exact ⟨n, h1, by omega, by omega⟩
theorem rd_Tx {H : Type} {enc : TypeId × Value → H} {W : World} {sp : Nat → Bool} {held : Bool} {cs : List Value} (h : Trw enc Try.prog W sp held 36 cs) : ∃ (x : Txs.Tx), cs = Txs.Tx.cells x ∧ Txs.Tx.Wf x := by
  have hp := h.pieces Try.underlying36 [1, 1, 1, 1, 1, 1, 1, 1, 32, 32] (by kernel_rfl)
  obtain ⟨v0, e0, w0⟩ := (h.field Try.underlying36 0 rfl (o := 0) rfl (T := 3) rfl (k := 1) (by kernel_rfl)).i64 Try.underlying3
  obtain ⟨v1, e1, w1⟩ := (h.field Try.underlying36 1 rfl (o := 1) rfl (T := 3) rfl (k := 1) (by kernel_rfl)).i64 Try.underlying3
  obtain ⟨v2, e2, w2⟩ := (h.field Try.underlying36 2 rfl (o := 2) rfl (T := 3) rfl (k := 1) (by kernel_rfl)).i64 Try.underlying3
  obtain ⟨v3, e3, w3⟩ := (h.field Try.underlying36 3 rfl (o := 3) rfl (T := 3) rfl (k := 1) (by kernel_rfl)).i64 Try.underlying3
  obtain ⟨v4, e4, w4⟩ := (h.field Try.underlying36 4 rfl (o := 4) rfl (T := 9) rfl (k := 1) (by kernel_rfl)).str Try.underlying9
  obtain ⟨v5, e5⟩ := (h.field Try.underlying36 5 rfl (o := 5) rfl (T := 4) rfl (k := 1) (by kernel_rfl)).bool Try.underlying4
  obtain ⟨v6, e6, w6⟩ := (h.field Try.underlying36 6 rfl (o := 6) rfl (T := 3) rfl (k := 1) (by kernel_rfl)).i64 Try.underlying3
  obtain ⟨v7, e7, w7⟩ := (h.field Try.underlying36 7 rfl (o := 7) rfl (T := 3) rfl (k := 1) (by kernel_rfl)).i64 Try.underlying3
  obtain ⟨v8, e8, w8⟩ := (h.field Try.underlying36 8 rfl (o := 8) rfl (T := 34) rfl (k := 32) (by kernel_rfl)).bytes Try.underlying34 Try.underlying5 (by kernel_rfl) (by kernel_rfl)
  obtain ⟨v9, e9, w9⟩ := (h.field Try.underlying36 9 rfl (o := 40) rfl (T := 34) rfl (k := 32) (by kernel_rfl)).bytes Try.underlying34 Try.underlying5 (by kernel_rfl) (by kernel_rfl)
  refine ⟨⟨v0, v1, v2, v3, v4, v5, v6, v7, v8, v9⟩, ?_, w0, w1, w2, w3, w4, w6, w7, w8, w9⟩
  rw [hp]
  simp only [Sx.pieces, Nat.zero_add, Nat.reduceAdd, e0, e1, e2, e3, e4, e5, e6, e7, e8, e9]
  first | rfl | simp [Txs.Tx.cells]
theorem rd_Come {H : Type} {enc : TypeId × Value → H} {W : World} {sp : Nat → Bool} {held : Bool} {cs : List Value} (h : Trw enc Try.prog W sp held 59 cs) : ∃ (x : Pool.Come), cs = Pool.Come.cells x ∧ Pool.Come.Wf x := by
  have hp := h.pieces Try.underlying59 [1, 72, 1, 1] (by kernel_rfl)
  obtain ⟨v0, e0⟩ := (h.field Try.underlying59 0 rfl (o := 0) rfl (T := 4) rfl (k := 1) (by kernel_rfl)).bool Try.underlying4
  obtain ⟨v1, e1, w1⟩ := rd_Tx (h.field Try.underlying59 1 rfl (o := 1) rfl (T := 36) rfl (k := 72) (by kernel_rfl))
  obtain ⟨v2, e2, w2⟩ := u8n (h.field Try.underlying59 2 rfl (o := 73) rfl (T := 5) rfl (k := 1) (by kernel_rfl)) Try.underlying5
  obtain ⟨v3, e3, w3⟩ := u8n (h.field Try.underlying59 3 rfl (o := 74) rfl (T := 5) rfl (k := 1) (by kernel_rfl)) Try.underlying5
  refine ⟨⟨v0, v1, v2, v3⟩, ?_, w1, w2, w3⟩
  rw [hp]
  simp only [Sx.pieces, Nat.zero_add, Nat.reduceAdd, e0, e1, e2, e3]
  first | rfl | (simp [Pool.Come.cells, Txs.Tx.cells]; done) | (simp [Pool.Come.cells, Txs.Tx.cells]; rfl)

end Go.Proofs.Ytbdkgmkaakoigaa.P_Rd
