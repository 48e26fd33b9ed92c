/- Part of a proof about given Go functions: contracts of functions, or plain laws. -/
import Derived.Test.YtbdkgmkaakoigaaS6
import Derived.Test.YtbdkgmkaakoigaaS5
import Derived.Test.YtbdkgmkaakoigaaS7
import Derived.Test.YtbdkgmkaakoigaaProg
import Derived.Test.YtbdkgmkaakoigaaW1
set_option linter.unusedVariables false
set_option linter.unusedSimpArgs false
namespace Go.Proofs.Ytbdkgmkaakoigaa.P_Put
open Go.Sx Go.RowKit Go.Proofs.Ytbdkgmkaakoigaa.P_Tx Go.Proofs.Ytbdkgmkaakoigaa.P_K Go.Proofs.Ytbdkgmkaakoigaa.P_Pst Go.Proofs.Ytbdkgmkaakoigaa.P_Tk

theorem z_zeroN38 : zeroL Try.prog 38 = some ((.int .i64 0 :: (.int .i64 0 :: (.int .i64 0 :: (.int .i64 0 :: (.string ⟨#[]⟩ :: (.bool false :: (.int .i64 0 :: (.int .i64 0 :: ((List.replicate 32 (0 : UInt8)).map u8 ++ ((List.replicate 32 (0 : UInt8)).map u8 ++ (.int .i64 0 :: (.int .i64 0 :: (.int .i64 0 :: (.int .i64 0 :: []))))))))))))))) := by kernel_rfl
theorem z_field38_0 : fieldB Try.prog 38 0 = some 0 := by kernel_rfl
theorem z_agg36 : aggB Try.prog 36 = some true := by kernel_rfl
theorem z_size36 : sizeB Try.prog 36 = some 72 := by kernel_rfl
theorem q_ld_c8b32b32c4_0_72 {a0 a1 a2 a3 a4 a5 a6 a7 a10 a11 a12 a13 : Value} {t8 t9 : List UInt8} (h8 : t8.length = 32) (h9 : t9.length = 32) : ((a0 :: a1 :: a2 :: a3 :: a4 :: a5 :: a6 :: a7 :: (t8.map u8 ++ ((t9.map u8 ++ (a10 :: a11 :: a12 :: a13 :: []))))).drop 0).take 72 = a0 :: a1 :: a2 :: a3 :: a4 :: a5 :: a6 :: a7 :: (t8.map u8 ++ (t9.map u8)) := (ld_s (ld_s (ld_s (ld_s (ld_s (ld_s (ld_s (ld_s (ld_t (k := 32) (n := 32) h8 rfl (ld_h h9))))))))))
theorem q_len_c8b32b32 {a0 a1 a2 a3 a4 a5 a6 a7 : Value} {t8 t9 : List UInt8} (h8 : t8.length = 32) (h9 : t9.length = 32) : (a0 :: a1 :: a2 :: a3 :: a4 :: a5 :: a6 :: a7 :: (t8.map u8 ++ (t9.map u8))).length = 72 := (len_c (n := 71) (len_c (n := 70) (len_c (n := 69) (len_c (n := 68) (len_c (n := 67) (len_c (n := 66) (len_c (n := 65) (len_c (n := 64) (len_b (k := 32) (n := 32) h8 (len_e (k := 32) h9))))))))))
theorem z_call25 : callB Try.prog 25 = true := by kernel_rfl
theorem z_places38 : placesB Try.prog 38 = some [(0, 72), (72, 1), (73, 1), (74, 1), (75, 1)] := by kernel_rfl
theorem z_size38 : sizeB Try.prog 38 = some 76 := by kernel_rfl
theorem q_one_c8b32b32c4 {a0 a1 a2 a3 a4 a5 a6 a7 a10 a11 a12 a13 : Value} {t8 t9 : List UInt8} (o0 : a0.oneCell' = true) (o1 : a1.oneCell' = true) (o2 : a2.oneCell' = true) (o3 : a3.oneCell' = true) (o4 : a4.oneCell' = true) (o5 : a5.oneCell' = true) (o6 : a6.oneCell' = true) (o7 : a7.oneCell' = true) (o10 : a10.oneCell' = true) (o11 : a11.oneCell' = true) (o12 : a12.oneCell' = true) (o13 : a13.oneCell' = true) : (a0 :: a1 :: a2 :: a3 :: a4 :: a5 :: a6 :: a7 :: (t8.map u8 ++ ((t9.map u8 ++ (a10 :: a11 :: a12 :: a13 :: []))))).all (·.oneCell') = true := (one_c o0 (one_c o1 (one_c o2 (one_c o3 (one_c o4 (one_c o5 (one_c o6 (one_c o7 (one_b (one_b (one_c o10 (one_c o11 (one_c o12 (one_c o13 one_n))))))))))))))
theorem q_len_c8b32b32c4 {a0 a1 a2 a3 a4 a5 a6 a7 a10 a11 a12 a13 : Value} {t8 t9 : List UInt8} (h8 : t8.length = 32) (h9 : t9.length = 32) : (a0 :: a1 :: a2 :: a3 :: a4 :: a5 :: a6 :: a7 :: (t8.map u8 ++ ((t9.map u8 ++ (a10 :: a11 :: a12 :: a13 :: []))))).length = 76 := (len_c (n := 75) (len_c (n := 74) (len_c (n := 73) (len_c (n := 72) (len_c (n := 71) (len_c (n := 70) (len_c (n := 69) (len_c (n := 68) (len_b (k := 32) (n := 36) h8 (len_b (k := 32) (n := 4) h9 (len_c (n := 3) (len_c (n := 2) (len_c (n := 1) (len_c (n := 0) len_n))))))))))))))
theorem q_spl_c8b32b32c4_0_c8b32b32c4 {a0 a1 a2 a3 a4 a5 a6 a7 a10 a11 a12 a13 : Value} {t8 t9 : List UInt8} {b0 b1 b2 b3 b4 b5 b6 b7 b10 b11 b12 b13 : Value} {s8 s9 : List UInt8} (h8 : t8.length = 32) (h9 : t9.length = 32) (g8 : s8.length = 32) (g9 : s9.length = 32) : spl (a0 :: a1 :: a2 :: a3 :: a4 :: a5 :: a6 :: a7 :: (t8.map u8 ++ ((t9.map u8 ++ (a10 :: a11 :: a12 :: a13 :: []))))) 0 (b0 :: b1 :: b2 :: b3 :: b4 :: b5 :: b6 :: b7 :: (s8.map u8 ++ ((s9.map u8 ++ (b10 :: b11 :: b12 :: b13 :: []))))) = b0 :: b1 :: b2 :: b3 :: b4 :: b5 :: b6 :: b7 :: (s8.map u8 ++ ((s9.map u8 ++ (b10 :: b11 :: b12 :: b13 :: [])))) := (spl_a (z := 76) (len_c (n := 75) (len_c (n := 74) (len_c (n := 73) (len_c (n := 72) (len_c (n := 71) (len_c (n := 70) (len_c (n := 69) (len_c (n := 68) (len_b (k := 32) (n := 36) h8 (len_b (k := 32) (n := 4) h9 (len_c (n := 3) (len_c (n := 2) (len_c (n := 1) (len_c (n := 0) len_n)))))))))))))) (len_c (n := 75) (len_c (n := 74) (len_c (n := 73) (len_c (n := 72) (len_c (n := 71) (len_c (n := 70) (len_c (n := 69) (len_c (n := 68) (len_b (k := 32) (n := 36) g8 (len_b (k := 32) (n := 4) g9 (len_c (n := 3) (len_c (n := 2) (len_c (n := 1) (len_c (n := 0) len_n)))))))))))))))
theorem z_agg38 : aggB Try.prog 38 = some true := by kernel_rfl
theorem z_field38_1 : fieldB Try.prog 38 1 = some 72 := by kernel_rfl
theorem z_agg3 : aggB Try.prog 3 = some false := by kernel_rfl
theorem q_ix_c8b32b32c4_72 {a0 a1 a2 a3 a4 a5 a6 a7 a10 a11 a12 a13 : Value} {t8 t9 : List UInt8} (h8 : t8.length = 32) (h9 : t9.length = 32) : (a0 :: a1 :: a2 :: a3 :: a4 :: a5 :: a6 :: a7 :: (t8.map u8 ++ ((t9.map u8 ++ (a10 :: a11 :: a12 :: a13 :: [])))))[72]? = some a10 := (ix_c (o := 71) (ix_c (o := 70) (ix_c (o := 69) (ix_c (o := 68) (ix_c (o := 67) (ix_c (o := 66) (ix_c (o := 65) (ix_c (o := 64) (ix_b (k := 32) (o := 32) h8 rfl (ix_b (k := 32) (o := 0) h9 rfl ix_0))))))))))
theorem z_field38_2 : fieldB Try.prog 38 2 = some 73 := by kernel_rfl
theorem q_ix_c8b32b32c4_73 {a0 a1 a2 a3 a4 a5 a6 a7 a10 a11 a12 a13 : Value} {t8 t9 : List UInt8} (h8 : t8.length = 32) (h9 : t9.length = 32) : (a0 :: a1 :: a2 :: a3 :: a4 :: a5 :: a6 :: a7 :: (t8.map u8 ++ ((t9.map u8 ++ (a10 :: a11 :: a12 :: a13 :: [])))))[73]? = some a11 := (ix_c (o := 72) (ix_c (o := 71) (ix_c (o := 70) (ix_c (o := 69) (ix_c (o := 68) (ix_c (o := 67) (ix_c (o := 66) (ix_c (o := 65) (ix_b (k := 32) (o := 33) h8 rfl (ix_b (k := 32) (o := 1) h9 rfl (ix_c (o := 0) ix_0)))))))))))
theorem z_field38_3 : fieldB Try.prog 38 3 = some 74 := by kernel_rfl
theorem q_ix_c8b32b32c4_74 {a0 a1 a2 a3 a4 a5 a6 a7 a10 a11 a12 a13 : Value} {t8 t9 : List UInt8} (h8 : t8.length = 32) (h9 : t9.length = 32) : (a0 :: a1 :: a2 :: a3 :: a4 :: a5 :: a6 :: a7 :: (t8.map u8 ++ ((t9.map u8 ++ (a10 :: a11 :: a12 :: a13 :: [])))))[74]? = some a12 := (ix_c (o := 73) (ix_c (o := 72) (ix_c (o := 71) (ix_c (o := 70) (ix_c (o := 69) (ix_c (o := 68) (ix_c (o := 67) (ix_c (o := 66) (ix_b (k := 32) (o := 34) h8 rfl (ix_b (k := 32) (o := 2) h9 rfl (ix_c (o := 1) (ix_c (o := 0) ix_0))))))))))))
theorem z_field38_4 : fieldB Try.prog 38 4 = some 75 := by kernel_rfl
theorem q_ix_c8b32b32c4_75 {a0 a1 a2 a3 a4 a5 a6 a7 a10 a11 a12 a13 : Value} {t8 t9 : List UInt8} (h8 : t8.length = 32) (h9 : t9.length = 32) : (a0 :: a1 :: a2 :: a3 :: a4 :: a5 :: a6 :: a7 :: (t8.map u8 ++ ((t9.map u8 ++ (a10 :: a11 :: a12 :: a13 :: [])))))[75]? = some a13 := (ix_c (o := 74) (ix_c (o := 73) (ix_c (o := 72) (ix_c (o := 71) (ix_c (o := 70) (ix_c (o := 69) (ix_c (o := 68) (ix_c (o := 67) (ix_b (k := 32) (o := 35) h8 rfl (ix_b (k := 32) (o := 3) h9 rfl (ix_c (o := 2) (ix_c (o := 1) (ix_c (o := 0) ix_0)))))))))))))
theorem z_size3 : sizeB Try.prog 3 = some 1 := by kernel_rfl
theorem z_zero3 : zeroL Try.prog 3 = some ([.int .i64 0]) := by kernel_rfl
theorem z_call26 : callB Try.prog 26 = true := by kernel_rfl
theorem z_field63_1 : fieldB Try.prog 63 1 = some 1 := by kernel_rfl
theorem z_agg30 : aggB Try.prog 30 = some false := by kernel_rfl
theorem q_ix_c2_1 {a0 a1 : Value} : (a0 :: a1 :: [])[1]? = some a1 := (ix_c (o := 0) ix_0)
theorem z_field36_0 : fieldB Try.prog 36 0 = some 0 := by kernel_rfl
theorem q_ix_c8b32b32c4_0 {a0 a1 a2 a3 a4 a5 a6 a7 a10 a11 a12 a13 : Value} {t8 t9 : List UInt8} : (a0 :: a1 :: a2 :: a3 :: a4 :: a5 :: a6 :: a7 :: (t8.map u8 ++ ((t9.map u8 ++ (a10 :: a11 :: a12 :: a13 :: [])))))[0]? = some a0 := ix_0
theorem z_field36_1 : fieldB Try.prog 36 1 = some 1 := by kernel_rfl
theorem q_ix_c8b32b32c4_1 {a0 a1 a2 a3 a4 a5 a6 a7 a10 a11 a12 a13 : Value} {t8 t9 : List UInt8} : (a0 :: a1 :: a2 :: a3 :: a4 :: a5 :: a6 :: a7 :: (t8.map u8 ++ ((t9.map u8 ++ (a10 :: a11 :: a12 :: a13 :: [])))))[1]? = some a1 := (ix_c (o := 0) ix_0)
theorem z_field63_0 : fieldB Try.prog 63 0 = some 0 := by kernel_rfl
theorem q_ix_c2_0 {a0 a1 : Value} : (a0 :: a1 :: [])[0]? = some a0 := ix_0
theorem z_call27 : callB Try.prog 27 = true := by kernel_rfl
theorem z_field36_2 : fieldB Try.prog 36 2 = some 2 := by kernel_rfl
theorem q_ix_c8b32b32c4_2 {a0 a1 a2 a3 a4 a5 a6 a7 a10 a11 a12 a13 : Value} {t8 t9 : List UInt8} : (a0 :: a1 :: a2 :: a3 :: a4 :: a5 :: a6 :: a7 :: (t8.map u8 ++ ((t9.map u8 ++ (a10 :: a11 :: a12 :: a13 :: [])))))[2]? = some a2 := (ix_c (o := 1) (ix_c (o := 0) ix_0))
theorem z_call28 : callB Try.prog 28 = true := by kernel_rfl
theorem q_ld_c8b32b32c4_0_76 {a0 a1 a2 a3 a4 a5 a6 a7 a10 a11 a12 a13 : Value} {t8 t9 : List UInt8} (h8 : t8.length = 32) (h9 : t9.length = 32) : ((a0 :: a1 :: a2 :: a3 :: a4 :: a5 :: a6 :: a7 :: (t8.map u8 ++ ((t9.map u8 ++ (a10 :: a11 :: a12 :: a13 :: []))))).drop 0).take 76 = a0 :: a1 :: a2 :: a3 :: a4 :: a5 :: a6 :: a7 :: (t8.map u8 ++ ((t9.map u8 ++ (a10 :: a11 :: a12 :: a13 :: [])))) := (ld_a (len_c (n := 75) (len_c (n := 74) (len_c (n := 73) (len_c (n := 72) (len_c (n := 71) (len_c (n := 70) (len_c (n := 69) (len_c (n := 68) (len_b (k := 32) (n := 36) h8 (len_b (k := 32) (n := 4) h9 (len_c (n := 3) (len_c (n := 2) (len_c (n := 1) (len_c (n := 0) len_n)))))))))))))))
theorem z_zero38 : zeroL Try.prog 38 = some ([.int .i64 0, .int .i64 0, .int .i64 0, .int .i64 0, .string ⟨#[]⟩, .bool false, .int .i64 0, .int .i64 0, .int .u8 0, .int .u8 0, .int .u8 0, .int .u8 0, .int .u8 0, .int .u8 0, .int .u8 0, .int .u8 0, .int .u8 0, .int .u8 0, .int .u8 0, .int .u8 0, .int .u8 0, .int .u8 0, .int .u8 0, .int .u8 0, .int .u8 0, .int .u8 0, .int .u8 0, .int .u8 0, .int .u8 0, .int .u8 0, .int .u8 0, .int .u8 0, .int .u8 0, .int .u8 0, .int .u8 0, .int .u8 0, .int .u8 0, .int .u8 0, .int .u8 0, .int .u8 0, .int .u8 0, .int .u8 0, .int .u8 0, .int .u8 0, .int .u8 0, .int .u8 0, .int .u8 0, .int .u8 0, .int .u8 0, .int .u8 0, .int .u8 0, .int .u8 0, .int .u8 0, .int .u8 0, .int .u8 0, .int .u8 0, .int .u8 0, .int .u8 0, .int .u8 0, .int .u8 0, .int .u8 0, .int .u8 0, .int .u8 0, .int .u8 0, .int .u8 0, .int .u8 0, .int .u8 0, .int .u8 0, .int .u8 0, .int .u8 0, .int .u8 0, .int .u8 0, .int .i64 0, .int .i64 0, .int .i64 0, .int .i64 0]) := by kernel_rfl
theorem z_slice30 : sliceB Try.prog 30 = some (38, 76, 168) := by kernel_rfl
theorem z_notint30 : notIntB Try.prog 30 = true := by kernel_rfl
theorem z_size30 : sizeB Try.prog 30 = some 1 := by kernel_rfl
theorem q_len_c2 {a0 a1 : Value} : (a0 :: a1 :: []).length = 2 := (len_c (n := 1) (len_c (n := 0) len_n))
theorem q_set_c2_1 {a0 a1 : Value} {v : Value} : (a0 :: a1 :: []).set 1 v = a0 :: v :: [] := (set_c (o := 0) set_0)

set_option maxRecDepth 100000 in
set_option maxHeartbeats 8000000 in
theorem pput (L : List Pool.Wait) (hL : Pool.Wfs L) (size : Int) (bp : Nat) (v : Value) (hlen : L.length ≤ 1000) (hg : Pool.Good ⟨size, L⟩) (x : Pool.Wait) (wx : Pool.Wait.Wf x) {w : World} (hs : Sep (fps [It.row 38 76 v L.length (Pool.wc L), It.blk bp 63 [i64 size, v]]) w w [It.row 38 76 v L.length (Pool.wc L), It.blk bp 63 [i64 size, v]]) : Calls Try.prog 10 #[.pointer (some ⟨bp, 0, none⟩), .agg (Pool.Wait.cells x).toArray] w (Post (fps [It.row 38 76 v L.length (Pool.wc L), It.blk bp 63 [i64 size, v]]) w fun u l' => u = .tuple #[.agg (Pool.Wait.cells (Pool.put ⟨size, L⟩ x).2.1).toArray, .bool (Pool.put ⟨size, L⟩ x).2.2.1, .int .i64 (Pool.put ⟨size, L⟩ x).2.2.2] ∧ ∃ v', l' = [It.row 38 76 v' (Pool.put ⟨size, L⟩ x).1.L.length (Pool.wc (Pool.put ⟨size, L⟩ x).1.L), It.blk bp 63 [i64 size, v']]) := by
  obtain ⟨A, cc, rfl, hRx, hmx⟩ := row_shape (v := v) hs (by repeat (first | exact Mh | apply Mt))
  have hcap := row_cap (A := A) (c := cc) hs (by repeat (first | exact Mh | apply Mt))
  have whx := wx.tx.hand
  have wtx := wx.tx.tag
  have hfit := hg.fits
  have hsz := hg.size
  dsimp only at hfit hsz
  have hlf := Pool.left_len size L
  have hLL := hL.left size
  have hwo := hL.out size
  have who1 := hwo.tx.hand
  have who2 := hwo.tx.tag
  have lz32 : (List.replicate 32 (0 : UInt8)).length = 32 := List.length_replicate
  have lz0 := wx.tx.hand
  have lz1 := wx.tx.tag
  refine enterL (args := [.pointer (some ⟨bp, 0, none⟩), .agg (Pool.Wait.cells x).toArray]) Try.func10 rfl rfl (l := [It.row 38 76 (.slice A L.length cc) L.length (Pool.wc L), It.blk bp 63 [i64 size, (.slice A L.length cc)]]) hs ?_
  intro a0 H0
  refine wp_seq ?_
  refine reg ?_
  refine st_box rfl rfl (agg_cells _) rfl rfl rfl H0 ?_
  clear H0; intro b1 a1 wx1 H1
  refine st_alloc rfl z_zeroN38 rfl rfl rfl H1 ?_
  clear H1; intro b2 a2 wx2 H2
  refine plain (y_assign rfl rfl) rfl rfl rfl H2 ?_
  clear H2; intro a3 H3
  refine plain (y_assign rfl rfl) rfl rfl rfl H3 ?_
  clear H3; intro a4 H4
  refine fin ?_
  refine then_n ?_
  refine wp_seq ?_
  refine wp_block ?_
  refine wp_seq ?_
  refine reg ?_
  refine plain (y_move rfl rfl) rfl rfl rfl H4 ?_
  clear H4; intro a5 H5
  refine plain (y_peql rfl Try.underlying24 rfl rfl) rfl rfl rfl H5 ?_
  clear H5; intro a6 H6
  refine plain (y_assign rfl rfl) rfl rfl rfl H6 ?_
  clear H6; intro a7 H7
  refine fin ?_
  refine then_n ?_
  refine cnd_f H7 rfl ?_
  refine wp_seq ?_
  refine reg ?_
  refine plain (y_fieldB rfl z_field38_0 rfl (by first | (simp only [Nat.zero_add, Nat.add_zero, Nat.reduceAdd]; rfl) | rfl)) rfl rfl rfl H7 ?_
  clear H7; intro a9 H9
  refine plain (y_loadAB rfl z_agg36 z_size36 rfl (by repeat (first | exact Mh | apply Mt)) (q_ld_c8b32b32c4_0_72 (by assumption) (by assumption)) (q_len_c8b32b32 (by assumption) (by assumption))) rfl rfl rfl H9 ?_
  clear H9; intro a10 H10
  refine st_callg rfl z_call25 rfl rfl rfl rfl H10 (tcheck x.tx wx.tx _) ?_
  clear H10; intro a11 wx11 H11
  refine plain (y_neq rfl rfl rfl) rfl rfl rfl H11 ?_
  clear H11; intro a12 H12
  refine plain (y_move rfl rfl) rfl rfl rfl H12 ?_
  clear H12; intro a13 H13
  refine Sx.part (d := 22) H13 rfl (fun hg14 => ?_) (fun hg14 => ?_)
  · first
    | fail
    | skip
      clear H13; intro H15
      try simp only [decide_eq_true_eq, decide_eq_false_iff_not, Bool.not_eq_true', Bool.not_eq_false', Bool.and_eq_true, Bool.not_eq_true, Bool.not_eq_false] at hg14
      have hnr : ¬ Pool.right x := fun z => hg14 z.1
      refine skip rfl rfl rfl H15 ?_
      clear H15; intro a16 H16
      refine skip rfl rfl rfl H16 ?_
      clear H16; intro a17 H17
      refine skip rfl rfl rfl H17 ?_
      clear H17; intro a18 H18
      refine skip rfl rfl rfl H18 ?_
      clear H18; intro a19 H19
      refine skip rfl rfl rfl H19 ?_
      clear H19; intro a20 H20
      refine skip rfl rfl rfl H20 ?_
      clear H20; intro a21 H21
      refine skip rfl rfl rfl H21 ?_
      clear H21; intro a22 H22
      refine skip rfl rfl rfl H22 ?_
      clear H22; intro a23 H23
      refine skip rfl rfl rfl H23 ?_
      clear H23; intro a24 H24
      refine skip rfl rfl rfl H24 ?_
      clear H24; intro a25 H25
      refine skip rfl rfl rfl H25 ?_
      clear H25; intro a26 H26
      refine plain (y_pick_t rfl rfl rfl) rfl rfl rfl H26 ?_
      clear H26; intro a27 H27
      refine plain (y_assign rfl rfl) rfl rfl rfl H27 ?_
      clear H27; intro a28 H28
      refine fin ?_
      refine then_n ?_
      refine cnd_t H28 rfl ?_
      refine wp_seq ?_
      refine reg ?_
      refine plain (y_build rfl z_zeroN38 z_places38 rfl lay_n) rfl rfl rfl H28 ?_
      clear H28; intro a30 H30
      refine st_storeN rfl z_size38 rfl rfl (agg_cells _) (by repeat (first | exact Uh | apply Ut)) (q_one_c8b32b32c4 rfl rfl rfl rfl rfl rfl rfl rfl rfl rfl rfl rfl) (q_len_c8b32b32c4 (by assumption) (by assumption)) (q_len_c8b32b32c4 (by assumption) (by assumption)) (q_spl_c8b32b32c4_0_c8b32b32c4 (by assumption) (by assumption) (by assumption) (by assumption)) (by decide) rfl rfl H30 ?_
      clear H30; intro wx31 H31
      refine plain (y_assign rfl rfl) rfl rfl rfl H31 ?_
      clear H31; intro a32 H32
      refine plain (y_assign rfl rfl) rfl rfl rfl H32 ?_
      clear H32; intro a33 H33
      refine fin ?_
      refine then_n ?_
      refine wp_ret ?_
      refine inb_r ?_
      refine then_r ?_
      -- return 1
      refine retctt rfl H33 rfl z_agg38 z_size38 (by repeat (first | exact Mh | apply Mt)) (q_len_c8b32b32c4 (by assumption) (by assumption)) rfl rfl ?_
      first | (have hz := hnr; rw [Pool.put_bad hnr]; exact ⟨_, _, rfl, ⟨rfl, (.slice A L.length cc), rfl⟩, H33.sep.sub (by repeat (first | exact S1 | exact S0 | apply S2 | apply S3))⟩) | (have hz := hnfz; have hsx := H33.sep.sub (List.Sublist.cons_cons _ (List.Sublist.cons_cons _ (List.Sublist.cons _ (List.Sublist.cons _ (List.Sublist.refl _))))); by_cases hgz : (L.length : Int) = size; (rw [(Pool.left_yes hgz).1] at hsx; rw [(Pool.left_yes hgz).2, Pool.put_gone (p := ⟨size, L⟩) hrt hnt (by dsimp only; omega) (hnfz hgz)]; exact ⟨_, _, rfl, ⟨by rw [decide_eq_true hgz]; rfl, vW, rfl⟩, hsx⟩); (rw [(Pool.left_no hgz).1] at hsx; rw [(Pool.left_no hgz).2, Pool.put_room (p := ⟨size, L⟩) hrt hnt (by dsimp only; omega)]; exact ⟨_, _, rfl, ⟨by rw [decide_eq_false hgz]; rfl, vW, rfl⟩, hsx⟩)) | (have hz := hful; rw [Pool.put_full (p := ⟨size, L⟩) hrt hnt (by dsimp only; omega) (by dsimp only; omega)]; exact ⟨_, _, rfl, ⟨rfl, (.slice A L.length cc), rfl⟩, H33.sep.sub (by repeat (first | exact S1 | exact S0 | apply S2 | apply S3))⟩) | (rw [Pool.put_twice (p := ⟨size, L⟩) hrt ⟨_, Pool.mem_getD hkl, by first | exact .inl (by assumption) | exact .inr ⟨by assumption, by assumption⟩⟩]; exact ⟨_, _, rfl, ⟨rfl, (.slice A L.length cc), rfl⟩, H33.sep.sub (by repeat (first | exact S1 | exact S0 | apply S2 | apply S3))⟩)
  · first
    | fail
    | skip
      clear H13; intro H34
      try simp only [decide_eq_true_eq, decide_eq_false_iff_not, Bool.not_eq_true', Bool.not_eq_false', Bool.and_eq_true, Bool.not_eq_true, Bool.not_eq_false] at hg14
      have hck : Txs.check x.tx = 0 := by omega
      refine plain (y_fieldB rfl z_field38_1 rfl (by first | (simp only [Nat.zero_add, Nat.add_zero, Nat.reduceAdd]; rfl) | rfl)) rfl rfl rfl H34 ?_
      clear H34; intro a35 H35
      refine plain (y_loadB rfl z_agg3 rfl (by repeat (first | exact Mh | apply Mt)) (q_ix_c8b32b32c4_72 (by assumption) (by assumption))) rfl rfl rfl H35 ?_
      clear H35; intro a36 H36
      refine plain (y_fieldB rfl z_field38_2 rfl (by first | (simp only [Nat.zero_add, Nat.add_zero, Nat.reduceAdd]; rfl) | rfl)) rfl rfl rfl H36 ?_
      clear H36; intro a37 H37
      refine plain (y_loadB rfl z_agg3 rfl (by repeat (first | exact Mh | apply Mt)) (q_ix_c8b32b32c4_73 (by assumption) (by assumption))) rfl rfl rfl H37 ?_
      clear H37; intro a38 H38
      refine plain (y_fieldB rfl z_field38_3 rfl (by first | (simp only [Nat.zero_add, Nat.add_zero, Nat.reduceAdd]; rfl) | rfl)) rfl rfl rfl H38 ?_
      clear H38; intro a39 H39
      refine plain (y_loadB rfl z_agg3 rfl (by repeat (first | exact Mh | apply Mt)) (q_ix_c8b32b32c4_74 (by assumption) (by assumption))) rfl rfl rfl H39 ?_
      clear H39; intro a40 H40
      refine plain (y_fieldB rfl z_field38_4 rfl (by first | (simp only [Nat.zero_add, Nat.add_zero, Nat.reduceAdd]; rfl) | rfl)) rfl rfl rfl H40 ?_
      clear H40; intro a41 H41
      refine plain (y_loadB rfl z_agg3 rfl (by repeat (first | exact Mh | apply Mt)) (q_ix_c8b32b32c4_75 (by assumption) (by assumption))) rfl rfl rfl H41 ?_
      clear H41; intro a42 H42
      refine st_buildSlice1 (xs := [.tmp 24, .tmp 26, .tmp 28, .tmp 30]) rfl Try.underlying23 z_size3 z_zero3 rfl rfl rfl rfl rfl rfl rfl rfl rfl H42 ?_
      clear H42; intro b43 a43 wx43 H43
      refine st_callg rfl z_call26 rfl rfl rfl rfl H43 (pright [x.index, x.till, x.time, x.place] _ _ _ rfl (by simp) (Rd.ofSep (rd_blkA (by repeat (first | exact Mh | apply Mt))) H43.sep)) ?_
      clear H43; intro a44 wx44 H44
      refine plain ((by first | exact y_not_d rfl rfl | exact y_not rfl rfl)) rfl rfl rfl H44 ?_
      clear H44; intro a45 H45
      refine plain (y_pick_f rfl rfl rfl) rfl rfl rfl H45 ?_
      clear H45; intro a46 H46
      refine plain (y_assign rfl rfl) rfl rfl rfl H46 ?_
      clear H46; intro a47 H47
      refine fin ?_
      refine then_n ?_
      refine cnd H47 rfl (fun hc48 => ?_) (fun hc48 => ?_) -- cond 3
      · skip
        try simp only [decide_eq_true_eq, decide_eq_false_iff_not, Bool.not_eq_true', Bool.not_eq_false', Bool.and_eq_true, Bool.not_eq_true, Bool.not_eq_false] at hc48
        have hnr : ¬ Pool.right x := Pool.not_right (by simpa using hc48)
        refine wp_seq ?_
        refine reg ?_
        refine plain (y_build rfl z_zeroN38 z_places38 rfl lay_n) rfl rfl rfl H47 ?_
        clear H47; intro a49 H49
        refine st_storeN rfl z_size38 rfl rfl (agg_cells _) (by repeat (first | exact Uh | apply Ut)) (q_one_c8b32b32c4 rfl rfl rfl rfl rfl rfl rfl rfl rfl rfl rfl rfl) (q_len_c8b32b32c4 (by assumption) (by assumption)) (q_len_c8b32b32c4 (by assumption) (by assumption)) (q_spl_c8b32b32c4_0_c8b32b32c4 (by assumption) (by assumption) (by assumption) (by assumption)) (by decide) rfl rfl H49 ?_
        clear H49; intro wx50 H50
        refine plain (y_assign rfl rfl) rfl rfl rfl H50 ?_
        clear H50; intro a51 H51
        refine plain (y_assign rfl rfl) rfl rfl rfl H51 ?_
        clear H51; intro a52 H52
        refine fin ?_
        refine then_n ?_
        refine wp_ret ?_
        refine inb_r ?_
        refine then_r ?_
        -- return 2
        refine retctt rfl H52 rfl z_agg38 z_size38 (by repeat (first | exact Mh | apply Mt)) (q_len_c8b32b32c4 (by assumption) (by assumption)) rfl rfl ?_
        first | (have hz := hnr; rw [Pool.put_bad hnr]; exact ⟨_, _, rfl, ⟨rfl, (.slice A L.length cc), rfl⟩, H52.sep.sub (by repeat (first | exact S1 | exact S0 | apply S2 | apply S3))⟩) | (have hz := hnfz; have hsx := H52.sep.sub (List.Sublist.cons_cons _ (List.Sublist.cons_cons _ (List.Sublist.cons _ (List.Sublist.cons _ (List.Sublist.refl _))))); by_cases hgz : (L.length : Int) = size; (rw [(Pool.left_yes hgz).1] at hsx; rw [(Pool.left_yes hgz).2, Pool.put_gone (p := ⟨size, L⟩) hrt hnt (by dsimp only; omega) (hnfz hgz)]; exact ⟨_, _, rfl, ⟨by rw [decide_eq_true hgz]; rfl, vW, rfl⟩, hsx⟩); (rw [(Pool.left_no hgz).1] at hsx; rw [(Pool.left_no hgz).2, Pool.put_room (p := ⟨size, L⟩) hrt hnt (by dsimp only; omega)]; exact ⟨_, _, rfl, ⟨by rw [decide_eq_false hgz]; rfl, vW, rfl⟩, hsx⟩)) | (have hz := hful; rw [Pool.put_full (p := ⟨size, L⟩) hrt hnt (by dsimp only; omega) (by dsimp only; omega)]; exact ⟨_, _, rfl, ⟨rfl, (.slice A L.length cc), rfl⟩, H52.sep.sub (by repeat (first | exact S1 | exact S0 | apply S2 | apply S3))⟩) | (rw [Pool.put_twice (p := ⟨size, L⟩) hrt ⟨_, Pool.mem_getD hkl, by first | exact .inl (by assumption) | exact .inr ⟨by assumption, by assumption⟩⟩]; exact ⟨_, _, rfl, ⟨rfl, (.slice A L.length cc), rfl⟩, H52.sep.sub (by repeat (first | exact S1 | exact S0 | apply S2 | apply S3))⟩)
      · skip
        try simp only [decide_eq_true_eq, decide_eq_false_iff_not, Bool.not_eq_true', Bool.not_eq_false', Bool.and_eq_true, Bool.not_eq_true, Bool.not_eq_false] at hc48
        have hrt : Pool.right x := Pool.is_right hck (by simpa using hc48)
        refine wp_skip ?_
        refine inb_n ?_
        refine then_n ?_
        refine wp_seq ?_
        refine reg ?_
        refine plain (y_move rfl rfl) rfl rfl rfl H47 ?_
        clear H47; intro a53 H53
        refine plain (y_nilCheck rfl rfl) rfl rfl rfl H53 ?_
        clear H53; intro a54 H54
        refine plain (y_fieldB rfl z_field63_1 rfl (by first | (simp only [Nat.zero_add, Nat.add_zero, Nat.reduceAdd]; rfl) | rfl)) rfl rfl rfl H54 ?_
        clear H54; intro a55 H55
        refine plain (y_loadB rfl z_agg30 rfl (by repeat (first | exact Mh | apply Mt)) q_ix_c2_1) rfl rfl rfl H55 ?_
        clear H55; intro a56 H56
        refine plain (y_len rfl Try.underlying30 rfl) rfl rfl rfl H56 ?_
        clear H56; intro a57 H57
        refine plain (y_assign rfl rfl) rfl rfl rfl H57 ?_
        clear H57; intro a58 H58
        refine fin ?_
        refine then_n ?_
        refine wp_seq ?_
        refine wp_seq ?_
        refine reg ?_
        refine plain (y_move rfl rfl) rfl rfl rfl H58 ?_
        clear H58; intro a59 H59
        refine plain (y_nilCheck rfl rfl) rfl rfl rfl H59 ?_
        clear H59; intro a60 H60
        refine plain (y_fieldB rfl z_field63_1 rfl (by first | (simp only [Nat.zero_add, Nat.add_zero, Nat.reduceAdd]; rfl) | rfl)) rfl rfl rfl H60 ?_
        clear H60; intro a61 H61
        refine plain (y_loadB rfl z_agg30 rfl (by repeat (first | exact Mh | apply Mt)) q_ix_c2_1) rfl rfl rfl H61 ?_
        clear H61; intro a62 H62
        refine plain (y_len rfl Try.underlying30 rfl) rfl rfl rfl H62 ?_
        clear H62; intro a63 H63
        refine plain (y_move rfl rfl) rfl rfl rfl H63 ?_
        clear H63; intro a64 H64
        refine fin ?_
        refine then_n ?_
        refine wp_block ?_
        refine loop (ι := Nat) (fun k => [(0, .pointer (some ⟨bp, 0, none⟩)), (3, .pointer (some ⟨b1, 0, none⟩)), (4, .pointer (some ⟨b2, 0, none⟩)), (5, .bool false), (6, .int .i64 0), (7, .int .i64 ((Pool.upTo L x k : Nat) : Int)), (44, (.slice A L.length cc)), (45, .int .i64 (L.length : Int)), (46, .int .i64 (k : Int))]) (fun k => [It.blk b2 38 (Pool.Wait.cells Pool.Wait.zero), It.blk b1 38 (Pool.Wait.cells x), It.row 38 76 (.slice A L.length cc) L.length (Pool.wc L), It.blk bp 63 [i64 size, (.slice A L.length cc)]]) (fun k => k ≤ L.length ∧ ∀ j, j < k → ¬ Pool.meets (L.getD j Pool.Wait.zero) x) (fun k => L.length - k) (0) ⟨Nat.zero_le _, fun j hj => absurd hj (by omega)⟩ ((H64.drop (List.Sublist.cons _ (List.Sublist.refl _))).weak ⟨rfl, rfl, rfl, rfl, rfl, rfl, rfl, rfl, rfl, trivial⟩ rfl) ?_
        clear H64; intro k a65 wx65 hok65 H65
        obtain ⟨hok, hnm⟩ := hok65
        refine wp_seq ?_
        refine reg ?_
        refine plain (y_lss rfl rfl rfl) rfl rfl rfl H65 ?_
        clear H65; intro a66 H66
        refine fin ?_
        refine then_n ?_
        refine wp_seq ?_
        refine cnd H66 rfl (fun hc67 => ?_) (fun hc67 => ?_) -- cond 4
        · skip
          try simp only [decide_eq_true_eq, decide_eq_false_iff_not, Bool.not_eq_true', Bool.not_eq_false', Bool.and_eq_true, Bool.not_eq_true, Bool.not_eq_false] at hc67
          refine wp_skip ?_
          refine then_n ?_
          refine wp_seq ?_
          refine wp_block ?_
          refine wp_seq ?_
          have hkl : k < L.length := by omega
          have hwk := hL.at_ hkl
          have whd := hwk.tx.hand
          have wtg := hwk.tx.tag
          refine reg ?_
          refine plain (y_move rfl rfl) rfl rfl rfl H66 ?_
          clear H66; intro a68 H68
          refine plain (y_ixR rfl Try.underlying30 z_size38 rfl rfl (by omega) (by omega) (rd_row (by repeat (first | exact Mh | apply Mt))) (by rw [Pool.wc_len hL]; omega)) rfl rfl rfl H68 ?_
          clear H68; intro a69 H69
          refine plain (y_loadAS rfl z_agg38 z_size38 rfl (rd_row (by repeat (first | exact Mh | apply Mt))) (show _ = Pool.Wait.cells (L.getD k Pool.Wait.zero) from Pool.wc_take hL k (by omega)) hwk.len (by decide)) rfl rfl rfl H69 ?_
          clear H69; intro a70 H70
          refine st_alloc rfl z_zeroN38 rfl rfl rfl H70 ?_
          clear H70; intro b71 a71 wx71 H71
          refine plain (y_assign rfl rfl) rfl rfl rfl H71 ?_
          clear H71; intro a72 H72
          refine st_storeN rfl z_size38 rfl rfl (agg_cells _) (by repeat (first | exact Uh | apply Ut)) (q_one_c8b32b32c4 rfl rfl rfl rfl rfl rfl rfl rfl rfl rfl rfl rfl) (q_len_c8b32b32c4 (by assumption) (by assumption)) (q_len_c8b32b32c4 (by assumption) (by assumption)) (q_spl_c8b32b32c4_0_c8b32b32c4 (by assumption) (by assumption) (by assumption) (by assumption)) (by decide) rfl rfl H72 ?_
          clear H72; intro wx73 H73
          refine fin ?_
          refine then_n ?_
          refine wp_seq ?_
          refine wp_seq ?_
          refine reg ?_
          refine plain (y_fieldB rfl z_field38_1 rfl (by first | (simp only [Nat.zero_add, Nat.add_zero, Nat.reduceAdd]; rfl) | rfl)) rfl rfl rfl H73 ?_
          clear H73; intro a74 H74
          refine plain (y_loadB rfl z_agg3 rfl (by repeat (first | exact Mh | apply Mt)) (q_ix_c8b32b32c4_72 (by assumption) (by assumption))) rfl rfl rfl H74 ?_
          clear H74; intro a75 H75
          refine plain (y_fieldB rfl z_field38_1 rfl (by first | (simp only [Nat.zero_add, Nat.add_zero, Nat.reduceAdd]; rfl) | rfl)) rfl rfl rfl H75 ?_
          clear H75; intro a76 H76
          refine plain (y_loadB rfl z_agg3 rfl (by repeat (first | exact Mh | apply Mt)) (q_ix_c8b32b32c4_72 (by assumption) (by assumption))) rfl rfl rfl H76 ?_
          clear H76; intro a77 H77
          refine plain (y_eql rfl rfl rfl) rfl rfl rfl H77 ?_
          clear H77; intro a78 H78
          refine plain (y_move rfl rfl) rfl rfl rfl H78 ?_
          clear H78; intro a79 H79
          refine Sx.part (d := 56) H79 rfl (fun hg80 => ?_) (fun hg80 => ?_)
          · first
            | fail
            | skip
              clear H79; intro H81
              try simp only [decide_eq_true_eq, decide_eq_false_iff_not, Bool.not_eq_true', Bool.not_eq_false', Bool.and_eq_true, Bool.not_eq_true, Bool.not_eq_false] at hg80
              refine skip rfl rfl rfl H81 ?_
              clear H81; intro a82 H82
              refine skip rfl rfl rfl H82 ?_
              clear H82; intro a83 H83
              refine skip rfl rfl rfl H83 ?_
              clear H83; intro a84 H84
              refine skip rfl rfl rfl H84 ?_
              clear H84; intro a85 H85
              refine skip rfl rfl rfl H85 ?_
              clear H85; intro a86 H86
              refine skip rfl rfl rfl H86 ?_
              clear H86; intro a87 H87
              refine skip rfl rfl rfl H87 ?_
              clear H87; intro a88 H88
              refine skip rfl rfl rfl H88 ?_
              clear H88; intro a89 H89
              refine skip rfl rfl rfl H89 ?_
              clear H89; intro a90 H90
              refine skip rfl rfl rfl H90 ?_
              clear H90; intro a91 H91
              refine skip rfl rfl rfl H91 ?_
              clear H91; intro a92 H92
              refine skip rfl rfl rfl H92 ?_
              clear H92; intro a93 H93
              refine skip rfl rfl rfl H93 ?_
              clear H93; intro a94 H94
              refine skip rfl rfl rfl H94 ?_
              clear H94; intro a95 H95
              refine skip rfl rfl rfl H95 ?_
              clear H95; intro a96 H96
              refine skip rfl rfl rfl H96 ?_
              clear H96; intro a97 H97
              refine plain (y_pick_t rfl rfl rfl) rfl rfl rfl H97 ?_
              clear H97; intro a98 H98
              refine fin ?_
              refine then_n ?_
              refine cnd_t H98 rfl ?_
              refine wp_seq ?_
              refine reg ?_
              refine plain (y_build rfl z_zeroN38 z_places38 rfl lay_n) rfl rfl rfl H98 ?_
              clear H98; intro a100 H100
              refine st_storeN rfl z_size38 rfl rfl (agg_cells _) (by repeat (first | exact Uh | apply Ut)) (q_one_c8b32b32c4 rfl rfl rfl rfl rfl rfl rfl rfl rfl rfl rfl rfl) (q_len_c8b32b32c4 (by assumption) (by assumption)) (q_len_c8b32b32c4 (by assumption) (by assumption)) (q_spl_c8b32b32c4_0_c8b32b32c4 (by assumption) (by assumption) (by assumption) (by assumption)) (by decide) rfl rfl H100 ?_
              clear H100; intro wx101 H101
              refine plain (y_assign rfl rfl) rfl rfl rfl H101 ?_
              clear H101; intro a102 H102
              refine plain (y_assign rfl rfl) rfl rfl rfl H102 ?_
              clear H102; intro a103 H103
              refine fin ?_
              refine then_n ?_
              refine wp_ret ?_
              refine then_r ?_
              refine inb_r ?_
              refine then_r ?_
              refine then_r ?_
              refine inb_r ?_
              refine then_r ?_
              -- return 3
              refine retctt rfl H103 rfl z_agg38 z_size38 (by repeat (first | exact Mh | apply Mt)) (q_len_c8b32b32c4 (by assumption) (by assumption)) rfl rfl ?_
              first | (have hz := hnr; rw [Pool.put_bad hnr]; exact ⟨_, _, rfl, ⟨rfl, (.slice A L.length cc), rfl⟩, H103.sep.sub (by repeat (first | exact S1 | exact S0 | apply S2 | apply S3))⟩) | (have hz := hnfz; have hsx := H103.sep.sub (List.Sublist.cons_cons _ (List.Sublist.cons_cons _ (List.Sublist.cons _ (List.Sublist.cons _ (List.Sublist.refl _))))); by_cases hgz : (L.length : Int) = size; (rw [(Pool.left_yes hgz).1] at hsx; rw [(Pool.left_yes hgz).2, Pool.put_gone (p := ⟨size, L⟩) hrt hnt (by dsimp only; omega) (hnfz hgz)]; exact ⟨_, _, rfl, ⟨by rw [decide_eq_true hgz]; rfl, vW, rfl⟩, hsx⟩); (rw [(Pool.left_no hgz).1] at hsx; rw [(Pool.left_no hgz).2, Pool.put_room (p := ⟨size, L⟩) hrt hnt (by dsimp only; omega)]; exact ⟨_, _, rfl, ⟨by rw [decide_eq_false hgz]; rfl, vW, rfl⟩, hsx⟩)) | (have hz := hful; rw [Pool.put_full (p := ⟨size, L⟩) hrt hnt (by dsimp only; omega) (by dsimp only; omega)]; exact ⟨_, _, rfl, ⟨rfl, (.slice A L.length cc), rfl⟩, H103.sep.sub (by repeat (first | exact S1 | exact S0 | apply S2 | apply S3))⟩) | (rw [Pool.put_twice (p := ⟨size, L⟩) hrt ⟨_, Pool.mem_getD hkl, by first | exact .inl (by assumption) | exact .inr ⟨by assumption, by assumption⟩⟩]; exact ⟨_, _, rfl, ⟨rfl, (.slice A L.length cc), rfl⟩, H103.sep.sub (by repeat (first | exact S1 | exact S0 | apply S2 | apply S3))⟩)
          · first
            | fail
            | skip
              clear H79; intro H104
              try simp only [decide_eq_true_eq, decide_eq_false_iff_not, Bool.not_eq_true', Bool.not_eq_false', Bool.and_eq_true, Bool.not_eq_true, Bool.not_eq_false] at hg80
              refine plain (y_fieldB rfl z_field38_0 rfl (by first | (simp only [Nat.zero_add, Nat.add_zero, Nat.reduceAdd]; rfl) | rfl)) rfl rfl rfl H104 ?_
              clear H104; intro a105 H105
              refine plain (y_fieldB rfl z_field36_0 rfl (by first | (simp only [Nat.zero_add, Nat.add_zero, Nat.reduceAdd]; rfl) | rfl)) rfl rfl rfl H105 ?_
              clear H105; intro a106 H106
              refine plain (y_loadB rfl z_agg3 rfl (by repeat (first | exact Mh | apply Mt)) q_ix_c8b32b32c4_0) rfl rfl rfl H106 ?_
              clear H106; intro a107 H107
              refine plain (y_fieldB rfl z_field38_0 rfl (by first | (simp only [Nat.zero_add, Nat.add_zero, Nat.reduceAdd]; rfl) | rfl)) rfl rfl rfl H107 ?_
              clear H107; intro a108 H108
              refine plain (y_fieldB rfl z_field36_0 rfl (by first | (simp only [Nat.zero_add, Nat.add_zero, Nat.reduceAdd]; rfl) | rfl)) rfl rfl rfl H108 ?_
              clear H108; intro a109 H109
              refine plain (y_loadB rfl z_agg3 rfl (by repeat (first | exact Mh | apply Mt)) q_ix_c8b32b32c4_0) rfl rfl rfl H109 ?_
              clear H109; intro a110 H110
              refine plain (y_eql rfl rfl rfl) rfl rfl rfl H110 ?_
              clear H110; intro a111 H111
              refine plain (y_move rfl rfl) rfl rfl rfl H111 ?_
              clear H111; intro a112 H112
              refine Sx.part (d := 64) H112 rfl (fun hg113 => ?_) (fun hg113 => ?_)
              · first
                | fail
                | skip
                  clear H112; intro H114
                  try simp only [decide_eq_true_eq, decide_eq_false_iff_not, Bool.not_eq_true', Bool.not_eq_false', Bool.and_eq_true, Bool.not_eq_true, Bool.not_eq_false] at hg113
                  refine plain (y_fieldB rfl z_field38_0 rfl (by first | (simp only [Nat.zero_add, Nat.add_zero, Nat.reduceAdd]; rfl) | rfl)) rfl rfl rfl H114 ?_
                  clear H114; intro a115 H115
                  refine plain (y_fieldB rfl z_field36_1 rfl (by first | (simp only [Nat.zero_add, Nat.add_zero, Nat.reduceAdd]; rfl) | rfl)) rfl rfl rfl H115 ?_
                  clear H115; intro a116 H116
                  refine plain (y_loadB rfl z_agg3 rfl (by repeat (first | exact Mh | apply Mt)) q_ix_c8b32b32c4_1) rfl rfl rfl H116 ?_
                  clear H116; intro a117 H117
                  refine plain (y_fieldB rfl z_field38_0 rfl (by first | (simp only [Nat.zero_add, Nat.add_zero, Nat.reduceAdd]; rfl) | rfl)) rfl rfl rfl H117 ?_
                  clear H117; intro a118 H118
                  refine plain (y_fieldB rfl z_field36_1 rfl (by first | (simp only [Nat.zero_add, Nat.add_zero, Nat.reduceAdd]; rfl) | rfl)) rfl rfl rfl H118 ?_
                  clear H118; intro a119 H119
                  refine plain (y_loadB rfl z_agg3 rfl (by repeat (first | exact Mh | apply Mt)) q_ix_c8b32b32c4_1) rfl rfl rfl H119 ?_
                  clear H119; intro a120 H120
                  refine plain (y_eql rfl rfl rfl) rfl rfl rfl H120 ?_
                  clear H120; intro a121 H121
                  refine plain (y_pick_t rfl rfl rfl) rfl rfl rfl H121 ?_
                  clear H121; intro a122 H122
                  refine plain (y_pick_f rfl rfl rfl) rfl rfl rfl H122 ?_
                  clear H122; intro a123 H123
                  refine fin ?_
                  refine then_n ?_
                  refine cnd H123 rfl (fun hc124 => ?_) (fun hc124 => ?_) -- cond 6
                  · skip
                    try simp only [decide_eq_true_eq, decide_eq_false_iff_not, Bool.not_eq_true', Bool.not_eq_false', Bool.and_eq_true, Bool.not_eq_true, Bool.not_eq_false] at hc124
                    refine wp_seq ?_
                    refine reg ?_
                    refine plain (y_build rfl z_zeroN38 z_places38 rfl lay_n) rfl rfl rfl H123 ?_
                    clear H123; intro a125 H125
                    refine st_storeN rfl z_size38 rfl rfl (agg_cells _) (by repeat (first | exact Uh | apply Ut)) (q_one_c8b32b32c4 rfl rfl rfl rfl rfl rfl rfl rfl rfl rfl rfl rfl) (q_len_c8b32b32c4 (by assumption) (by assumption)) (q_len_c8b32b32c4 (by assumption) (by assumption)) (q_spl_c8b32b32c4_0_c8b32b32c4 (by assumption) (by assumption) (by assumption) (by assumption)) (by decide) rfl rfl H125 ?_
                    clear H125; intro wx126 H126
                    refine plain (y_assign rfl rfl) rfl rfl rfl H126 ?_
                    clear H126; intro a127 H127
                    refine plain (y_assign rfl rfl) rfl rfl rfl H127 ?_
                    clear H127; intro a128 H128
                    refine fin ?_
                    refine then_n ?_
                    refine wp_ret ?_
                    refine then_r ?_
                    refine inb_r ?_
                    refine then_r ?_
                    refine then_r ?_
                    refine inb_r ?_
                    refine then_r ?_
                    -- return 4
                    refine retctt rfl H128 rfl z_agg38 z_size38 (by repeat (first | exact Mh | apply Mt)) (q_len_c8b32b32c4 (by assumption) (by assumption)) rfl rfl ?_
                    first | (have hz := hnr; rw [Pool.put_bad hnr]; exact ⟨_, _, rfl, ⟨rfl, (.slice A L.length cc), rfl⟩, H128.sep.sub (by repeat (first | exact S1 | exact S0 | apply S2 | apply S3))⟩) | (have hz := hnfz; have hsx := H128.sep.sub (List.Sublist.cons_cons _ (List.Sublist.cons_cons _ (List.Sublist.cons _ (List.Sublist.cons _ (List.Sublist.refl _))))); by_cases hgz : (L.length : Int) = size; (rw [(Pool.left_yes hgz).1] at hsx; rw [(Pool.left_yes hgz).2, Pool.put_gone (p := ⟨size, L⟩) hrt hnt (by dsimp only; omega) (hnfz hgz)]; exact ⟨_, _, rfl, ⟨by rw [decide_eq_true hgz]; rfl, vW, rfl⟩, hsx⟩); (rw [(Pool.left_no hgz).1] at hsx; rw [(Pool.left_no hgz).2, Pool.put_room (p := ⟨size, L⟩) hrt hnt (by dsimp only; omega)]; exact ⟨_, _, rfl, ⟨by rw [decide_eq_false hgz]; rfl, vW, rfl⟩, hsx⟩)) | (have hz := hful; rw [Pool.put_full (p := ⟨size, L⟩) hrt hnt (by dsimp only; omega) (by dsimp only; omega)]; exact ⟨_, _, rfl, ⟨rfl, (.slice A L.length cc), rfl⟩, H128.sep.sub (by repeat (first | exact S1 | exact S0 | apply S2 | apply S3))⟩) | (rw [Pool.put_twice (p := ⟨size, L⟩) hrt ⟨_, Pool.mem_getD hkl, by first | exact .inl (by assumption) | exact .inr ⟨by assumption, by assumption⟩⟩]; exact ⟨_, _, rfl, ⟨rfl, (.slice A L.length cc), rfl⟩, H128.sep.sub (by repeat (first | exact S1 | exact S0 | apply S2 | apply S3))⟩)
                  · skip
                    try simp only [decide_eq_true_eq, decide_eq_false_iff_not, Bool.not_eq_true', Bool.not_eq_false', Bool.and_eq_true, Bool.not_eq_true, Bool.not_eq_false] at hc124
                    refine wp_skip ?_
                    refine then_n ?_
                    refine wp_seq ?_
                    refine reg ?_
                    refine plain (y_fieldB rfl z_field38_1 rfl (by first | (simp only [Nat.zero_add, Nat.add_zero, Nat.reduceAdd]; rfl) | rfl)) rfl rfl rfl H123 ?_
                    clear H123; intro a129 H129
                    refine plain (y_loadB rfl z_agg3 rfl (by repeat (first | exact Mh | apply Mt)) (q_ix_c8b32b32c4_72 (by assumption) (by assumption))) rfl rfl rfl H129 ?_
                    clear H129; intro a130 H130
                    refine plain (y_fieldB rfl z_field38_1 rfl (by first | (simp only [Nat.zero_add, Nat.add_zero, Nat.reduceAdd]; rfl) | rfl)) rfl rfl rfl H130 ?_
                    clear H130; intro a131 H131
                    refine plain (y_loadB rfl z_agg3 rfl (by repeat (first | exact Mh | apply Mt)) (q_ix_c8b32b32c4_72 (by assumption) (by assumption))) rfl rfl rfl H131 ?_
                    clear H131; intro a132 H132
                    refine plain (y_gtr rfl rfl rfl) rfl rfl rfl H132 ?_
                    clear H132; intro a133 H133
                    refine fin ?_
                    refine then_n ?_
                    refine cnd H133 rfl (fun hc134 => ?_) (fun hc134 => ?_) -- cond 7
                    · skip
                      try simp only [decide_eq_true_eq, decide_eq_false_iff_not, Bool.not_eq_true', Bool.not_eq_false', Bool.and_eq_true, Bool.not_eq_true, Bool.not_eq_false] at hc134
                      refine reg ?_
                      refine plain (y_move rfl rfl) rfl rfl rfl H133 ?_
                      clear H133; intro a135 H135
                      refine plain (y_move rfl rfl) rfl rfl rfl H135 ?_
                      clear H135; intro a136 H136
                      refine plain (y_min2 rfl rfl rfl) rfl rfl rfl H136 ?_
                      clear H136; intro a137 H137
                      refine plain (y_assign rfl rfl) rfl rfl rfl H137 ?_
                      clear H137; intro a138 H138
                      refine fin ?_
                      refine inb_n ?_
                      refine then_n ?_
                      refine reg ?_
                      refine plain (y_add rfl rfl rfl (by first | exact w64 (by omega) (by omega) | rfl)) rfl rfl rfl H138 ?_
                      clear H138; intro a139 H139
                      refine plain (y_move rfl rfl) rfl rfl rfl H139 ?_
                      clear H139; intro a140 H140
                      refine fin ?_
                      refine then_n ?_
                      have hnk : ¬ Pool.meets (L.getD k Pool.Wait.zero) x := fun z => by (rcases z with z | z <;> first | contradiction | omega | exact absurd z.1 (by assumption) | exact absurd z.2 (by assumption))
                      refine ⟨k + 1, by omega, ⟨by omega, fun j hj => ?_⟩, (H140.drop (List.Sublist.cons _ (List.Sublist.refl _))).weak ⟨rfl, rfl, rfl, rfl, rfl, fi rfl (by first | (rw [← Pool.upTo_yes hkl (by assumption)]; omega) | (rw [← Pool.upTo_no hkl (by assumption)])), rfl, rfl, fi rfl (by omega), trivial⟩ rfl⟩
                      by_cases e : j = k
                      · subst e; exact hnk
                      · exact hnm j (by omega)
                    · skip
                      try simp only [decide_eq_true_eq, decide_eq_false_iff_not, Bool.not_eq_true', Bool.not_eq_false', Bool.and_eq_true, Bool.not_eq_true, Bool.not_eq_false] at hc134
                      refine wp_skip ?_
                      refine inb_n ?_
                      refine then_n ?_
                      refine reg ?_
                      refine plain (y_add rfl rfl rfl (by first | exact w64 (by omega) (by omega) | rfl)) rfl rfl rfl H133 ?_
                      clear H133; intro a141 H141
                      refine plain (y_move rfl rfl) rfl rfl rfl H141 ?_
                      clear H141; intro a142 H142
                      refine fin ?_
                      refine then_n ?_
                      have hnk : ¬ Pool.meets (L.getD k Pool.Wait.zero) x := fun z => by (rcases z with z | z <;> first | contradiction | omega | exact absurd z.1 (by assumption) | exact absurd z.2 (by assumption))
                      refine ⟨k + 1, by omega, ⟨by omega, fun j hj => ?_⟩, (H142.drop (List.Sublist.cons _ (List.Sublist.refl _))).weak ⟨rfl, rfl, rfl, rfl, rfl, fi rfl (by first | (rw [← Pool.upTo_yes hkl (by assumption)]; omega) | (rw [← Pool.upTo_no hkl (by assumption)])), rfl, rfl, fi rfl (by omega), trivial⟩ rfl⟩
                      by_cases e : j = k
                      · subst e; exact hnk
                      · exact hnm j (by omega)
              · first
                | fail
                | skip
                  clear H112; intro H143
                  try simp only [decide_eq_true_eq, decide_eq_false_iff_not, Bool.not_eq_true', Bool.not_eq_false', Bool.and_eq_true, Bool.not_eq_true, Bool.not_eq_false] at hg113
                  refine skip rfl rfl rfl H143 ?_
                  clear H143; intro a144 H144
                  refine skip rfl rfl rfl H144 ?_
                  clear H144; intro a145 H145
                  refine skip rfl rfl rfl H145 ?_
                  clear H145; intro a146 H146
                  refine skip rfl rfl rfl H146 ?_
                  clear H146; intro a147 H147
                  refine skip rfl rfl rfl H147 ?_
                  clear H147; intro a148 H148
                  refine skip rfl rfl rfl H148 ?_
                  clear H148; intro a149 H149
                  refine skip rfl rfl rfl H149 ?_
                  clear H149; intro a150 H150
                  refine plain (y_pick_f rfl rfl rfl) rfl rfl rfl H150 ?_
                  clear H150; intro a151 H151
                  refine plain (y_pick_f rfl rfl rfl) rfl rfl rfl H151 ?_
                  clear H151; intro a152 H152
                  refine fin ?_
                  refine then_n ?_
                  refine cnd_f H152 rfl ?_
                  refine wp_skip ?_
                  refine then_n ?_
                  refine wp_seq ?_
                  refine reg ?_
                  refine plain (y_fieldB rfl z_field38_1 rfl (by first | (simp only [Nat.zero_add, Nat.add_zero, Nat.reduceAdd]; rfl) | rfl)) rfl rfl rfl H152 ?_
                  clear H152; intro a154 H154
                  refine plain (y_loadB rfl z_agg3 rfl (by repeat (first | exact Mh | apply Mt)) (q_ix_c8b32b32c4_72 (by assumption) (by assumption))) rfl rfl rfl H154 ?_
                  clear H154; intro a155 H155
                  refine plain (y_fieldB rfl z_field38_1 rfl (by first | (simp only [Nat.zero_add, Nat.add_zero, Nat.reduceAdd]; rfl) | rfl)) rfl rfl rfl H155 ?_
                  clear H155; intro a156 H156
                  refine plain (y_loadB rfl z_agg3 rfl (by repeat (first | exact Mh | apply Mt)) (q_ix_c8b32b32c4_72 (by assumption) (by assumption))) rfl rfl rfl H156 ?_
                  clear H156; intro a157 H157
                  refine plain (y_gtr rfl rfl rfl) rfl rfl rfl H157 ?_
                  clear H157; intro a158 H158
                  refine fin ?_
                  refine then_n ?_
                  refine cnd H158 rfl (fun hc159 => ?_) (fun hc159 => ?_) -- cond 9
                  · skip
                    try simp only [decide_eq_true_eq, decide_eq_false_iff_not, Bool.not_eq_true', Bool.not_eq_false', Bool.and_eq_true, Bool.not_eq_true, Bool.not_eq_false] at hc159
                    refine reg ?_
                    refine plain (y_move rfl rfl) rfl rfl rfl H158 ?_
                    clear H158; intro a160 H160
                    refine plain (y_move rfl rfl) rfl rfl rfl H160 ?_
                    clear H160; intro a161 H161
                    refine plain (y_min2 rfl rfl rfl) rfl rfl rfl H161 ?_
                    clear H161; intro a162 H162
                    refine plain (y_assign rfl rfl) rfl rfl rfl H162 ?_
                    clear H162; intro a163 H163
                    refine fin ?_
                    refine inb_n ?_
                    refine then_n ?_
                    refine reg ?_
                    refine plain (y_add rfl rfl rfl (by first | exact w64 (by omega) (by omega) | rfl)) rfl rfl rfl H163 ?_
                    clear H163; intro a164 H164
                    refine plain (y_move rfl rfl) rfl rfl rfl H164 ?_
                    clear H164; intro a165 H165
                    refine fin ?_
                    refine then_n ?_
                    have hnk : ¬ Pool.meets (L.getD k Pool.Wait.zero) x := fun z => by (rcases z with z | z <;> first | contradiction | omega | exact absurd z.1 (by assumption) | exact absurd z.2 (by assumption))
                    refine ⟨k + 1, by omega, ⟨by omega, fun j hj => ?_⟩, (H165.drop (List.Sublist.cons _ (List.Sublist.refl _))).weak ⟨rfl, rfl, rfl, rfl, rfl, fi rfl (by first | (rw [← Pool.upTo_yes hkl (by assumption)]; omega) | (rw [← Pool.upTo_no hkl (by assumption)])), rfl, rfl, fi rfl (by omega), trivial⟩ rfl⟩
                    by_cases e : j = k
                    · subst e; exact hnk
                    · exact hnm j (by omega)
                  · skip
                    try simp only [decide_eq_true_eq, decide_eq_false_iff_not, Bool.not_eq_true', Bool.not_eq_false', Bool.and_eq_true, Bool.not_eq_true, Bool.not_eq_false] at hc159
                    refine wp_skip ?_
                    refine inb_n ?_
                    refine then_n ?_
                    refine reg ?_
                    refine plain (y_add rfl rfl rfl (by first | exact w64 (by omega) (by omega) | rfl)) rfl rfl rfl H158 ?_
                    clear H158; intro a166 H166
                    refine plain (y_move rfl rfl) rfl rfl rfl H166 ?_
                    clear H166; intro a167 H167
                    refine fin ?_
                    refine then_n ?_
                    have hnk : ¬ Pool.meets (L.getD k Pool.Wait.zero) x := fun z => by (rcases z with z | z <;> first | contradiction | omega | exact absurd z.1 (by assumption) | exact absurd z.2 (by assumption))
                    refine ⟨k + 1, by omega, ⟨by omega, fun j hj => ?_⟩, (H167.drop (List.Sublist.cons _ (List.Sublist.refl _))).weak ⟨rfl, rfl, rfl, rfl, rfl, fi rfl (by first | (rw [← Pool.upTo_yes hkl (by assumption)]; omega) | (rw [← Pool.upTo_no hkl (by assumption)])), rfl, rfl, fi rfl (by omega), trivial⟩ rfl⟩
                    by_cases e : j = k
                    · subst e; exact hnk
                    · exact hnm j (by omega)
        · skip
          try simp only [decide_eq_true_eq, decide_eq_false_iff_not, Bool.not_eq_true', Bool.not_eq_false', Bool.and_eq_true, Bool.not_eq_true, Bool.not_eq_false] at hc67
          refine wp_exit ?_
          refine then_x ?_
          refine then_x ?_
          refine inb_hit ?_
          refine then_n ?_
          refine wp_seq ?_
          have hnt : ¬ Pool.twice L x := Pool.not_two (by omega) hnm
          have hup : Pool.upTo L x k = Pool.pos L x := Pool.upTo_all (by omega)
          rw [hup] at H66
          have hpl := Pool.pos_le L x
          refine reg ?_
          refine st_alloc rfl z_zeroN38 rfl rfl rfl H66 ?_
          clear H66; intro b168 a168 wx168 H168
          refine fin ?_
          refine then_n ?_
          refine wp_seq ?_
          refine qreg (by kernel_rfl) (by kernel_rfl) H168 ?_
          have F169 := H168.fr
          clear H168
          refine qplain (y_move rfl rfl) rfl rfl rfl F169 ?_
          clear F169; intro a170 H170
          refine qplain (y_nilCheck rfl rfl) rfl rfl rfl H170 ?_
          clear H170; intro a171 H171
          refine qplain (y_fieldB rfl z_field63_1 rfl (by first | (simp only [Nat.zero_add, Nat.add_zero, Nat.reduceAdd]; rfl) | rfl)) rfl rfl rfl H171 ?_
          clear H171; intro a172 H172
          refine qplain (y_loadB rfl z_agg30 rfl (by repeat (first | exact Mh | apply Mt)) q_ix_c2_1) rfl rfl rfl H172 ?_
          clear H172; intro a173 H173
          refine qplain (y_len rfl Try.underlying30 rfl) rfl rfl rfl H173 ?_
          clear H173; intro a174 H174
          refine qplain (y_move rfl rfl) rfl rfl rfl H174 ?_
          clear H174; intro a175 H175
          refine qplain (y_nilCheck rfl rfl) rfl rfl rfl H175 ?_
          clear H175; intro a176 H176
          refine qplain (y_fieldB rfl z_field63_0 rfl (by first | (simp only [Nat.zero_add, Nat.add_zero, Nat.reduceAdd]; rfl) | rfl)) rfl rfl rfl H176 ?_
          clear H176; intro a177 H177
          refine qplain (y_loadB rfl z_agg3 rfl (by repeat (first | exact Mh | apply Mt)) q_ix_c2_0) rfl rfl rfl H177 ?_
          clear H177; intro a178 H178
          refine qplain (y_eql rfl rfl rfl) rfl rfl rfl H178 ?_
          clear H178; intro a179 H179
          refine qplain (y_assign rfl rfl) rfl rfl rfl H179 ?_
          clear H179; intro a180 H180
          refine qfin H180 ?_
          clear H180; intro wx181 H181
          refine then_n ?_
          refine wp_seq ?_
          refine wp_seq ?_
          refine reg ?_
          refine plain (y_move rfl rfl) rfl rfl rfl H181 ?_
          clear H181; intro a182 H182
          refine fin ?_
          refine then_n ?_
          refine wp_cut (fun aC wC => (Pool.right x ∧ ¬ Pool.twice L x ∧ ((L.length : Int) = size → ¬ x.tx.fee ≤ (L.getD (Pool.poorest L L.length) Pool.Wait.zero).tx.fee)) ∧ ∃ vC : Value, St Try.f10.ntmps (fps [It.row 38 76 (.slice A L.length cc) L.length (Pool.wc L), It.blk bp 63 [i64 size, (.slice A L.length cc)]]) w ([(0, .pointer (some ⟨bp, 0, none⟩)), (3, .pointer (some ⟨b1, 0, none⟩)), (4, .pointer (some ⟨b2, 0, none⟩)), (5, .bool false), (6, .int .i64 0), (7, .int .i64 ((Pool.pos (Pool.left size L) x : Nat) : Int)), (10, .pointer (some ⟨b168, 0, none⟩)), (11, .bool (decide ((L.length : Int) = size)))]) ([It.row 38 76 vC (Pool.left size L).length (Pool.wc (Pool.left size L)), It.blk bp 63 [i64 size, vC], It.blk b168 38 (Pool.Wait.cells (Pool.outOf size L)), It.blk b2 38 (Pool.Wait.cells Pool.Wait.zero), It.blk b1 38 (Pool.Wait.cells x)]) aC wC) ?_ ?_
          · skip
            refine cnd H182 rfl (fun hc183 => ?_) (fun hc183 => ?_) -- cond 10
            · skip
              try simp only [decide_eq_true_eq, decide_eq_false_iff_not, Bool.not_eq_true', Bool.not_eq_false', Bool.and_eq_true, Bool.not_eq_true, Bool.not_eq_false] at hc183
              have hgz : (L.length : Int) = size := hc183
              refine wp_seq ?_
              refine reg ?_
              refine plain (y_move rfl rfl) rfl rfl rfl H182 ?_
              clear H182; intro a184 H184
              refine st_callg rfl z_call27 rfl rfl rfl rfl H184 (ppoorest L hL hg.sorted size bp A cc (by omega) (by omega) (H184.sep.all _ (by repeat (first | exact Mh | apply Mt))) (Rd.ofSep (rd_row (by repeat (first | exact Mh | apply Mt))) H184.sep)) ?_
              clear H184; intro a185 wx185 H185
              refine plain (y_assign rfl rfl) rfl rfl rfl H185 ?_
              clear H185; intro a186 H186
              refine fin ?_
              refine then_n ?_
              refine wp_seq ?_
              refine wp_seq ?_
              have hpo := Pool.poorest_in (L := L) (Nat.le_refl _) (by omega)
              have hwp := hL.at_ hpo
              have whp := hwp.tx.hand
              have wtp := hwp.tx.tag
              refine qreg (by kernel_rfl) (by kernel_rfl) H186 ?_
              have F187 := H186.fr
              clear H186
              refine qplain (y_move rfl rfl) rfl rfl rfl F187 ?_
              clear F187; intro a188 H188
              refine qplain (y_nilCheck rfl rfl) rfl rfl rfl H188 ?_
              clear H188; intro a189 H189
              refine qplain (y_fieldB rfl z_field63_1 rfl (by first | (simp only [Nat.zero_add, Nat.add_zero, Nat.reduceAdd]; rfl) | rfl)) rfl rfl rfl H189 ?_
              clear H189; intro a190 H190
              refine qplain (y_loadB rfl z_agg30 rfl (by repeat (first | exact Mh | apply Mt)) q_ix_c2_1) rfl rfl rfl H190 ?_
              clear H190; intro a191 H191
              refine qplain (y_move rfl rfl) rfl rfl rfl H191 ?_
              clear H191; intro a192 H192
              refine qplain (y_ixR rfl Try.underlying30 z_size38 rfl rfl (by omega) (by omega) (rd_row (by repeat (first | exact Mh | apply Mt))) (by rw [Pool.wc_len hL]; omega)) rfl rfl rfl H192 ?_
              clear H192; intro a193 H193
              refine qplain (y_fieldS rfl z_field38_0 rfl (rd_row (by repeat (first | exact Mh | apply Mt))) (by rw [Pool.wc_len hL]; omega)) rfl rfl rfl H193 ?_
              clear H193; intro a194 H194
              refine qplain (y_fieldS rfl z_field36_2 rfl (rd_row (by repeat (first | exact Mh | apply Mt))) (by rw [Pool.wc_len hL]; omega)) rfl rfl rfl H194 ?_
              clear H194; intro a195 H195
              refine qplain (y_loadR rfl z_agg3 rfl (rd_row (by repeat (first | exact Mh | apply Mt))) (by simp only [Int.toNat_natCast, Nat.zero_add, Nat.add_zero]; exact (show _ = some (i64 (L.getD (Pool.poorest L L.length) Pool.Wait.zero).tx.fee) from Pool.wc_at (c := 2) hL (by omega) (by omega)))) rfl rfl rfl H195 ?_
              clear H195; intro a196 H196
              refine qplain (y_fieldB rfl z_field38_0 rfl (by first | (simp only [Nat.zero_add, Nat.add_zero, Nat.reduceAdd]; rfl) | rfl)) rfl rfl rfl H196 ?_
              clear H196; intro a197 H197
              refine qplain (y_fieldB rfl z_field36_2 rfl (by first | (simp only [Nat.zero_add, Nat.add_zero, Nat.reduceAdd]; rfl) | rfl)) rfl rfl rfl H197 ?_
              clear H197; intro a198 H198
              refine qplain (y_loadB rfl z_agg3 rfl (by repeat (first | exact Mh | apply Mt)) q_ix_c8b32b32c4_2) rfl rfl rfl H198 ?_
              clear H198; intro a199 H199
              refine qplain (y_geq rfl rfl rfl) rfl rfl rfl H199 ?_
              clear H199; intro a200 H200
              refine qfin H200 ?_
              clear H200; intro wx201 H201
              refine then_n ?_
              refine cnd H201 rfl (fun hc202 => ?_) (fun hc202 => ?_) -- cond 11
              · skip
                try simp only [decide_eq_true_eq, decide_eq_false_iff_not, Bool.not_eq_true', Bool.not_eq_false', Bool.and_eq_true, Bool.not_eq_true, Bool.not_eq_false] at hc202
                have hful := hc202
                refine wp_seq ?_
                refine reg ?_
                refine plain (y_build rfl z_zeroN38 z_places38 rfl lay_n) rfl rfl rfl H201 ?_
                clear H201; intro a203 H203
                refine st_storeN rfl z_size38 rfl rfl (agg_cells _) (by repeat (first | exact Uh | apply Ut)) (q_one_c8b32b32c4 rfl rfl rfl rfl rfl rfl rfl rfl rfl rfl rfl rfl) (q_len_c8b32b32c4 (by assumption) (by assumption)) (q_len_c8b32b32c4 (by assumption) (by assumption)) (q_spl_c8b32b32c4_0_c8b32b32c4 (by assumption) (by assumption) (by assumption) (by assumption)) (by decide) rfl rfl H203 ?_
                clear H203; intro wx204 H204
                refine plain (y_assign rfl rfl) rfl rfl rfl H204 ?_
                clear H204; intro a205 H205
                refine plain (y_assign rfl rfl) rfl rfl rfl H205 ?_
                clear H205; intro a206 H206
                refine fin ?_
                refine then_n ?_
                refine wp_ret ?_
                refine then_r ?_
                refine cut_r ?_
                -- return 5
                refine retctt rfl H206 rfl z_agg38 z_size38 (by repeat (first | exact Mh | apply Mt)) (q_len_c8b32b32c4 (by assumption) (by assumption)) rfl rfl ?_
                first | (have hz := hnr; rw [Pool.put_bad hnr]; exact ⟨_, _, rfl, ⟨rfl, (.slice A L.length cc), rfl⟩, H206.sep.sub (by repeat (first | exact S1 | exact S0 | apply S2 | apply S3))⟩) | (have hz := hnfz; have hsx := H206.sep.sub (List.Sublist.cons_cons _ (List.Sublist.cons_cons _ (List.Sublist.cons _ (List.Sublist.cons _ (List.Sublist.refl _))))); by_cases hgz : (L.length : Int) = size; (rw [(Pool.left_yes hgz).1] at hsx; rw [(Pool.left_yes hgz).2, Pool.put_gone (p := ⟨size, L⟩) hrt hnt (by dsimp only; omega) (hnfz hgz)]; exact ⟨_, _, rfl, ⟨by rw [decide_eq_true hgz]; rfl, vW, rfl⟩, hsx⟩); (rw [(Pool.left_no hgz).1] at hsx; rw [(Pool.left_no hgz).2, Pool.put_room (p := ⟨size, L⟩) hrt hnt (by dsimp only; omega)]; exact ⟨_, _, rfl, ⟨by rw [decide_eq_false hgz]; rfl, vW, rfl⟩, hsx⟩)) | (have hz := hful; rw [Pool.put_full (p := ⟨size, L⟩) hrt hnt (by dsimp only; omega) (by dsimp only; omega)]; exact ⟨_, _, rfl, ⟨rfl, (.slice A L.length cc), rfl⟩, H206.sep.sub (by repeat (first | exact S1 | exact S0 | apply S2 | apply S3))⟩) | (rw [Pool.put_twice (p := ⟨size, L⟩) hrt ⟨_, Pool.mem_getD hkl, by first | exact .inl (by assumption) | exact .inr ⟨by assumption, by assumption⟩⟩]; exact ⟨_, _, rfl, ⟨rfl, (.slice A L.length cc), rfl⟩, H206.sep.sub (by repeat (first | exact S1 | exact S0 | apply S2 | apply S3))⟩)
              · skip
                try simp only [decide_eq_true_eq, decide_eq_false_iff_not, Bool.not_eq_true', Bool.not_eq_false', Bool.and_eq_true, Bool.not_eq_true, Bool.not_eq_false] at hc202
                have hnf := hc202
                refine wp_skip ?_
                refine then_n ?_
                refine wp_seq ?_
                refine reg ?_
                refine plain (y_move rfl rfl) rfl rfl rfl H201 ?_
                clear H201; intro a207 H207
                refine plain (y_move rfl rfl) rfl rfl rfl H207 ?_
                clear H207; intro a208 H208
                refine st_callk2 (is := [It.row 38 76 (.slice A L.length cc) L.length (Pool.wc L), It.blk bp 63 [i64 size, (.slice A L.length cc)]]) (enters_call rfl z_call28 rfl) rfl rfl rfl H208 (.cons (by repeat (first | exact Ph | apply Pt)) (.cons (by repeat (first | exact Ph | apply Pt)) (.nil _))) (fun hs => ptake L hL size bp (.slice A L.length cc) (Pool.poorest L L.length) (Pool.poorest_in (Nat.le_refl _) (by omega)) (by omega) hs) ?_
                clear H208; intro v209 l209 a209 wx209 hf209 H209
                obtain ⟨rfl, v1, rfl⟩ := hf209
                simp only [List.cons_append, List.nil_append] at H209
                refine st_storeN rfl z_size38 rfl rfl (agg_cells _) (by repeat (first | exact Uh | apply Ut)) (q_one_c8b32b32c4 rfl rfl rfl rfl rfl rfl rfl rfl rfl rfl rfl rfl) (q_len_c8b32b32c4 (by assumption) (by assumption)) (q_len_c8b32b32c4 (by assumption) (by assumption)) (q_spl_c8b32b32c4_0_c8b32b32c4 (by assumption) (by assumption) (by assumption) (by assumption)) (by decide) rfl rfl H209 ?_
                clear H209; intro wx210 H210
                refine fin ?_
                refine then_n ?_
                refine wp_seq ?_
                refine reg ?_
                refine plain (y_move rfl rfl) rfl rfl rfl H210 ?_
                clear H210; intro a211 H211
                refine plain (y_move rfl rfl) rfl rfl rfl H211 ?_
                clear H211; intro a212 H212
                refine plain (y_lss rfl rfl rfl) rfl rfl rfl H212 ?_
                clear H212; intro a213 H213
                refine fin ?_
                refine then_n ?_
                refine cnd H213 rfl (fun hc214 => ?_) (fun hc214 => ?_) -- cond 12
                · skip
                  try simp only [decide_eq_true_eq, decide_eq_false_iff_not, Bool.not_eq_true', Bool.not_eq_false', Bool.and_eq_true, Bool.not_eq_true, Bool.not_eq_false] at hc214
                  refine reg ?_
                  refine plain (y_move rfl rfl) rfl rfl rfl H213 ?_
                  clear H213; intro a215 H215
                  refine plain (y_sub rfl rfl rfl (by first | exact w64 (by omega) (by omega) | rfl)) rfl rfl rfl H215 ?_
                  clear H215; intro a216 H216
                  refine plain (y_assign rfl rfl) rfl rfl rfl H216 ?_
                  clear H216; intro a217 H217
                  refine fin ?_
                  refine cut_n ?_
                  first | (have hz := hnf; refine ⟨⟨hrt, hnt, fun _ => by omega⟩, v1, ?_⟩; rw [(Pool.left_yes hgz).1, (Pool.left_yes hgz).2]; rw [← (Pool.left_yes hgz).1]; exact H217.weak ⟨rfl, rfl, rfl, rfl, rfl, fi rfl (by rw [(Pool.left_yes hgz).1, Pool.pos_erase (L := L) hg.sorted hpo]; first | (rw [if_pos (by omega)]; omega) | (rw [if_neg (by omega)])), rfl, rfl, trivial⟩ (by rw [(Pool.left_yes hgz).1]; rfl)) | (refine ⟨⟨hrt, hnt, fun z => absurd z hgz⟩, (.slice A L.length cc), ?_⟩; rw [(Pool.left_no hgz).2]; exact (rot (rot (rot H217))).weak ⟨rfl, rfl, rfl, rfl, rfl, fi rfl (by rw [(Pool.left_no hgz).1]), rfl, rfl, trivial⟩ (by rw [(Pool.left_no hgz).1]; rfl))
                · skip
                  try simp only [decide_eq_true_eq, decide_eq_false_iff_not, Bool.not_eq_true', Bool.not_eq_false', Bool.and_eq_true, Bool.not_eq_true, Bool.not_eq_false] at hc214
                  refine wp_skip ?_
                  refine cut_n ?_
                  first | (have hz := hnf; refine ⟨⟨hrt, hnt, fun _ => by omega⟩, v1, ?_⟩; rw [(Pool.left_yes hgz).1, (Pool.left_yes hgz).2]; rw [← (Pool.left_yes hgz).1]; exact H213.weak ⟨rfl, rfl, rfl, rfl, rfl, fi rfl (by rw [(Pool.left_yes hgz).1, Pool.pos_erase (L := L) hg.sorted hpo]; first | (rw [if_pos (by omega)]; omega) | (rw [if_neg (by omega)])), rfl, rfl, trivial⟩ (by rw [(Pool.left_yes hgz).1]; rfl)) | (refine ⟨⟨hrt, hnt, fun z => absurd z hgz⟩, (.slice A L.length cc), ?_⟩; rw [(Pool.left_no hgz).2]; exact (rot (rot (rot H213))).weak ⟨rfl, rfl, rfl, rfl, rfl, fi rfl (by rw [(Pool.left_no hgz).1]), rfl, rfl, trivial⟩ (by rw [(Pool.left_no hgz).1]; rfl))
            · skip
              try simp only [decide_eq_true_eq, decide_eq_false_iff_not, Bool.not_eq_true', Bool.not_eq_false', Bool.and_eq_true, Bool.not_eq_true, Bool.not_eq_false] at hc183
              have hgz : ¬ (L.length : Int) = size := hc183
              refine wp_skip ?_
              refine cut_n ?_
              first | (have hz := hnf; refine ⟨⟨hrt, hnt, fun _ => by omega⟩, v1, ?_⟩; rw [(Pool.left_yes hgz).1, (Pool.left_yes hgz).2]; rw [← (Pool.left_yes hgz).1]; exact H182.weak ⟨rfl, rfl, rfl, rfl, rfl, fi rfl (by rw [(Pool.left_yes hgz).1, Pool.pos_erase (L := L) hg.sorted hpo]; first | (rw [if_pos (by omega)]; omega) | (rw [if_neg (by omega)])), rfl, rfl, trivial⟩ (by rw [(Pool.left_yes hgz).1]; rfl)) | (refine ⟨⟨hrt, hnt, fun z => absurd z hgz⟩, (.slice A L.length cc), ?_⟩; rw [(Pool.left_no hgz).2]; exact (rot (rot (rot H182))).weak ⟨rfl, rfl, rfl, rfl, rfl, fi rfl (by rw [(Pool.left_no hgz).1]), rfl, rfl, trivial⟩ (by rw [(Pool.left_no hgz).1]; rfl))
          · clear H182; intro a218 wx218 hI218
            obtain ⟨⟨hrt, hnt, hnfz⟩, vC, H218⟩ := hI218
            refine then_n ?_
            refine wp_seq ?_
            obtain ⟨A3, c3, rfl, hR3, hm3⟩ := row_shape (v := vC) H218.sep (by repeat (first | exact Mh | apply Mt))
            have hcap3 := row_cap (A := A3) (c := c3) H218.sep (by repeat (first | exact Mh | apply Mt))
            have hpl3 := Pool.pos_le (Pool.left size L) x
            have hsA : (Pool.wc ((Pool.left size L).take (((Pool.pos (Pool.left size L) x : Nat) : Int).toNat))).length = ((Pool.pos (Pool.left size L) x : Nat) : Int).toNat * 76 := by rw [Pool.wc_len (hLL.take _), List.length_take, Nat.min_eq_left (show ((Pool.pos (Pool.left size L) x : Nat) : Int).toNat ≤ (Pool.left size L).length by omega)]
            have hsB : (Pool.wc ((Pool.left size L).drop (((Pool.pos (Pool.left size L) x : Nat) : Int).toNat))).length = ((Pool.left size L).length - ((Pool.pos (Pool.left size L) x : Nat) : Int).toNat) * 76 := by rw [Pool.wc_len (hLL.drop _), List.length_drop]
            refine wp_cut (fun aC wC => ∃ vW : Value, St Try.f10.ntmps (fps [It.row 38 76 (.slice A L.length cc) L.length (Pool.wc L), It.blk bp 63 [i64 size, (.slice A L.length cc)]]) w ([(4, .pointer (some ⟨b2, 0, none⟩)), (10, .pointer (some ⟨b168, 0, none⟩)), (11, .bool (decide ((L.length : Int) = size)))]) ([It.row 38 76 vW (Pool.ins (Pool.left size L) x).length (Pool.wc (Pool.ins (Pool.left size L) x)), It.blk bp 63 [i64 size, vW], It.blk b168 38 (Pool.Wait.cells (Pool.outOf size L)), It.blk b2 38 (Pool.Wait.cells Pool.Wait.zero)]) aC wC) ?_ ?_
            · skip
              refine hreg [It.blk b1 38 (Pool.Wait.cells x)] (fun _ h => (h.sub (by first | exact S0 | exact S1 | repeat (first | exact S1 | exact S0 | apply S2 | apply S3)))) (by kernel_rfl) H218 ?_
              clear H218; intro wx219 H219
              refine htake 0 rfl (by kernel_rfl) (y_move rfl rfl) rfl rfl rfl (fun _ h => (h.sub (by first | exact S0 | exact S1 | repeat (first | exact S1 | exact S0 | apply S2 | apply S3)))) H219 ?_
              clear H219; intro a220 H220
              refine htake 2 rfl (by kernel_rfl) (y_move rfl rfl) rfl rfl rfl (fun _ h => (h.sub (by first | exact S0 | exact S1 | repeat (first | exact S1 | exact S0 | apply S2 | apply S3)))) H220 ?_
              clear H220; intro a221 H221
              refine htake 3 rfl (by kernel_rfl) (y_nilCheck rfl rfl) rfl rfl rfl (fun _ h => (h.sub (by first | exact S0 | exact S1 | repeat (first | exact S1 | exact S0 | apply S2 | apply S3)))) H221 ?_
              clear H221; intro a222 H222
              refine htake 4 rfl (by kernel_rfl) (y_fieldB rfl z_field63_1 rfl (by first | (simp only [Nat.zero_add, Nat.add_zero, Nat.reduceAdd]; rfl) | rfl)) rfl rfl rfl (fun _ h => (h.sub (by first | exact S0 | exact S1 | repeat (first | exact S1 | exact S0 | apply S2 | apply S3)))) H222 ?_
              clear H222; intro a223 H223
              refine htake 6 rfl (by kernel_rfl) (y_move rfl rfl) rfl rfl rfl (fun _ h => (h.sub (by first | exact S0 | exact S1 | repeat (first | exact S1 | exact S0 | apply S2 | apply S3)))) H223 ?_
              clear H223; intro a224 H224
              refine htake 9 rfl (by kernel_rfl) (y_loadAB rfl z_agg38 z_size38 rfl (by repeat (first | exact Mh | apply Mt)) (q_ld_c8b32b32c4_0_76 (by assumption) (by assumption)) (q_len_c8b32b32c4 (by assumption) (by assumption))) rfl rfl rfl (fun _ h => (h.sub (by first | exact S0 | exact S1 | repeat (first | exact S1 | exact S0 | apply S2 | apply S3)))) H224 ?_
              clear H224; intro a225 H225
              refine htake 12 rfl (by kernel_rfl) (y_move rfl rfl) rfl rfl rfl (fun _ h => (h.sub (by first | exact S0 | exact S1 | repeat (first | exact S1 | exact S0 | apply S2 | apply S3)))) H225 ?_
              clear H225; intro a226 H226
              refine htake 13 rfl (by kernel_rfl) (y_nilCheck rfl rfl) rfl rfl rfl (fun _ h => (h.sub (by first | exact S0 | exact S1 | repeat (first | exact S1 | exact S0 | apply S2 | apply S3)))) H226 ?_
              clear H226; intro a227 H227
              refine htake 14 rfl (by kernel_rfl) (y_fieldB rfl z_field63_1 rfl (by first | (simp only [Nat.zero_add, Nat.add_zero, Nat.reduceAdd]; rfl) | rfl)) rfl rfl rfl (fun _ h => (h.sub (by first | exact S0 | exact S1 | repeat (first | exact S1 | exact S0 | apply S2 | apply S3)))) H227 ?_
              clear H227; intro a228 H228
              refine htake 16 rfl (by kernel_rfl) (y_move rfl rfl) rfl rfl rfl (fun _ h => (h.sub (by first | exact S0 | exact S1 | repeat (first | exact S1 | exact S0 | apply S2 | apply S3)))) H228 ?_
              clear H228; intro a229 H229
              refine hgo4 1 5 10 15 rfl rfl rfl rfl (by kernel_rfl) ?_ ?_ ?_ ?_
              · skip
                refine st_buildSlice rfl Try.underlying30 z_size38 z_zero38 rfl rfl rfl (show _ = some ([] : List Value) from rfl) rfl rfl rfl H229 ?_
                clear H229; intro b230 a230 wx230 H230
                refine hfinA H230.sep ?_
                refine hgo3 5 10 15 rfl rfl rfl (by kernel_rfl) ?_ ?_ ?_
                · skip
                  refine plain (y_loadB rfl z_agg30 rfl (by repeat (first | exact Mh | apply Mt)) q_ix_c2_1) rfl rfl rfl H230 ?_
                  clear H230; intro a231 H231
                  refine hfinA H231.sep ?_
                  refine htake 7 rfl (by kernel_rfl) (y_slS_hi rfl Try.underlying30 z_size38 rfl rfl (by omega) (by omega) (by omega)) rfl rfl rfl (fun _ h => (h.sub (by first | exact S0 | exact S1 | repeat (first | exact S1 | exact S0 | apply S2 | apply S3)))) H231 ?_
                  clear H231; intro a232 H232
                  refine hgo3 8 10 15 rfl rfl rfl (by kernel_rfl) ?_ ?_ ?_
                  · skip
                    replace H232 := H232.asRow (b := b230) (size := 76) (m := 0) (by repeat (first | exact Uh | apply Ut)) rfl (by unfold maxLen; omega)
                    refine st_append rfl z_slice30 z_notint30 rfl rfl (fun _ => (by repeat (first | exact Uh | apply Ut))) (fun w hs => Src.slice ((Pool.rdp hLL (rd_row (by repeat (first | exact Mh | apply Mt))) (((Pool.pos (Pool.left size L) x : Nat) : Int).toNat)) w hs) hsA (Pool.wc_cell _)) (by unfold maxLen at *; omega) (by omega) rfl rfl rfl H232 ?_
                    clear H232; intro v233 a233 wx233 hnil233 H233
                    obtain ⟨Ar233, cr233, hvr233, hRr233, hmr233⟩ := row_shape (v := v233) H233.sep (by repeat (first | exact Mh | apply Mt))
                    subst hvr233
                    refine hfinA H233.sep ?_
                    refine hgo2 10 15 rfl rfl (by kernel_rfl) ?_ ?_
                    · skip
                      refine st_buildSlice rfl Try.underlying30 z_size38 z_zero38 rfl rfl rfl (lay_agg (agg_cells _) wx.len rfl) rfl rfl rfl H233 ?_
                      clear H233; intro b234 a234 wx234 H234
                      refine hfinA H234.sep ?_
                      refine hgo2 11 15 rfl rfl (by kernel_rfl) ?_ ?_
                      · skip
                        refine st_append rfl z_slice30 z_notint30 rfl rfl (fun _ => (by repeat (first | exact Uh | apply Ut))) (fun w hs => Src.slice ((rd_blkA (by repeat (first | exact Mh | apply Mt))) w hs) wx.len (Pool.wait_cell _)) (by unfold maxLen at *; omega) (by omega) rfl rfl rfl H234 ?_
                        clear H234; intro v235 a235 wx235 hnil235 H235
                        obtain ⟨Ar235, cr235, hvr235, hRr235, hmr235⟩ := row_shape (v := v235) H235.sep (by repeat (first | exact Mh | apply Mt))
                        subst hvr235
                        refine hfinA H235.sep ?_
                        refine hgo 15 rfl (by kernel_rfl) ?_
                        refine plain (y_loadB rfl z_agg30 rfl (by repeat (first | exact Mh | apply Mt)) q_ix_c2_1) rfl rfl rfl H235 ?_
                        clear H235; intro a236 H236
                        refine hfinA H236.sep ?_
                        refine htake 17 rfl (by kernel_rfl) (y_slS_lo rfl Try.underlying30 z_size38 rfl rfl (by omega) (by omega)) rfl rfl rfl (fun _ h => (h.sub (by first | exact S0 | exact S1 | repeat (first | exact S1 | exact S0 | apply S2 | apply S3)))) H236 ?_
                        clear H236; intro a237 H237
                        refine hgo 18 rfl (by kernel_rfl) ?_
                        refine st_append rfl z_slice30 z_notint30 rfl rfl (fun _ => (by repeat (first | exact Uh | apply Ut))) (fun w hs => Src.slice ((Pool.rds hLL (rd_row (by repeat (first | exact Mh | apply Mt))) (((Pool.pos (Pool.left size L) x : Nat) : Int).toNat) c3 hcap3) w hs) hsB (Pool.wc_cell _)) (by unfold maxLen at *; omega) (by omega) rfl rfl rfl H237 ?_
                        clear H237; intro v238 a238 wx238 hnil238 H238
                        obtain ⟨ArW, crW, hvrW, hRrW, hmrW⟩ := row_shape (v := v238) H238.sep (by repeat (first | exact Mh | apply Mt))
                        subst hvrW
                        refine hfinA H238.sep ?_
                        refine htake 19 rfl (by kernel_rfl) (y_nilCheck rfl rfl) rfl rfl rfl (fun _ h => (h.sub (by first | exact S0 | exact S1 | repeat (first | exact S1 | exact S0 | apply S2 | apply S3)))) H238 ?_
                        clear H238; intro a239 H239
                        refine htake 20 rfl (by kernel_rfl) (y_fieldB rfl z_field63_1 rfl (by first | (simp only [Nat.zero_add, Nat.add_zero, Nat.reduceAdd]; rfl) | rfl)) rfl rfl rfl (fun _ h => (h.sub (by first | exact S0 | exact S1 | repeat (first | exact S1 | exact S0 | apply S2 | apply S3)))) H239 ?_
                        clear H239; intro a240 H240
                        refine hgo 21 rfl (by kernel_rfl) ?_
                        refine st_store1N rfl z_size30 rfl rfl rfl (by repeat (first | exact Uh | apply Ut)) q_len_c2 q_set_c2_1 (by decide) rfl rfl H240 ?_
                        clear H240; intro wx241 H241
                        refine hfinA H241.sep ?_
                        refine hdone (by kernel_rfl) ?_
                        refine cut_n ?_
                        have hsx := H241.sep.sub (l' := [It.row _ 76 (.slice ArW _ crW) _ _, It.blk bp 63 _, It.blk b168 38 _, It.blk b2 38 _]) (by repeat (first | exact S1 | exact S0 | apply S2 | apply S3))
                        simp only [List.nil_append, Int.toNat_natCast, Nat.zero_add, Pool.ins_cells, Pool.ins_count] at hsx
                        exact ⟨_, H241.fr.weak ⟨rfl, rfl, rfl, trivial⟩, hsx⟩
                      · skip
                        refine plain (y_loadB rfl z_agg30 rfl (by repeat (first | exact Mh | apply Mt)) q_ix_c2_1) rfl rfl rfl H234 ?_
                        clear H234; intro a242 H242
                        refine hfinA H242.sep ?_
                        refine htake 17 rfl (by kernel_rfl) (y_slS_lo rfl Try.underlying30 z_size38 rfl rfl (by omega) (by omega)) rfl rfl rfl (fun _ h => (h.sub (by first | exact S0 | exact S1 | repeat (first | exact S1 | exact S0 | apply S2 | apply S3)))) H242 ?_
                        clear H242; intro a243 H243
                        refine hgo 11 rfl (by kernel_rfl) ?_
                        refine st_append rfl z_slice30 z_notint30 rfl rfl (fun _ => (by repeat (first | exact Uh | apply Ut))) (fun w hs => Src.slice ((rd_blkA (by repeat (first | exact Mh | apply Mt))) w hs) wx.len (Pool.wait_cell _)) (by unfold maxLen at *; omega) (by omega) rfl rfl rfl H243 ?_
                        clear H243; intro v244 a244 wx244 hnil244 H244
                        obtain ⟨Ar244, cr244, hvr244, hRr244, hmr244⟩ := row_shape (v := v244) H244.sep (by repeat (first | exact Mh | apply Mt))
                        subst hvr244
                        refine hfinA H244.sep ?_
                        refine hgo 18 rfl (by kernel_rfl) ?_
                        refine st_append rfl z_slice30 z_notint30 rfl rfl (fun _ => (by repeat (first | exact Uh | apply Ut))) (fun w hs => Src.slice ((Pool.rds hLL (rd_row (by repeat (first | exact Mh | apply Mt))) (((Pool.pos (Pool.left size L) x : Nat) : Int).toNat) c3 hcap3) w hs) hsB (Pool.wc_cell _)) (by unfold maxLen at *; omega) (by omega) rfl rfl rfl H244 ?_
                        clear H244; intro v245 a245 wx245 hnil245 H245
                        obtain ⟨ArW, crW, hvrW, hRrW, hmrW⟩ := row_shape (v := v245) H245.sep (by repeat (first | exact Mh | apply Mt))
                        subst hvrW
                        refine hfinA H245.sep ?_
                        refine htake 19 rfl (by kernel_rfl) (y_nilCheck rfl rfl) rfl rfl rfl (fun _ h => (h.sub (by first | exact S0 | exact S1 | repeat (first | exact S1 | exact S0 | apply S2 | apply S3)))) H245 ?_
                        clear H245; intro a246 H246
                        refine htake 20 rfl (by kernel_rfl) (y_fieldB rfl z_field63_1 rfl (by first | (simp only [Nat.zero_add, Nat.add_zero, Nat.reduceAdd]; rfl) | rfl)) rfl rfl rfl (fun _ h => (h.sub (by first | exact S0 | exact S1 | repeat (first | exact S1 | exact S0 | apply S2 | apply S3)))) H246 ?_
                        clear H246; intro a247 H247
                        refine hgo 21 rfl (by kernel_rfl) ?_
                        refine st_store1N rfl z_size30 rfl rfl rfl (by repeat (first | exact Uh | apply Ut)) q_len_c2 q_set_c2_1 (by decide) rfl rfl H247 ?_
                        clear H247; intro wx248 H248
                        refine hfinA H248.sep ?_
                        refine hdone (by kernel_rfl) ?_
                        refine cut_n ?_
                        have hsx := H248.sep.sub (l' := [It.row _ 76 (.slice ArW _ crW) _ _, It.blk bp 63 _, It.blk b168 38 _, It.blk b2 38 _]) (by repeat (first | exact S1 | exact S0 | apply S2 | apply S3))
                        simp only [List.nil_append, Int.toNat_natCast, Nat.zero_add, Pool.ins_cells, Pool.ins_count] at hsx
                        exact ⟨_, H248.fr.weak ⟨rfl, rfl, rfl, trivial⟩, hsx⟩
                    · skip
                      refine plain (y_loadB rfl z_agg30 rfl (by repeat (first | exact Mh | apply Mt)) q_ix_c2_1) rfl rfl rfl H233 ?_
                      clear H233; intro a249 H249
                      refine hfinA H249.sep ?_
                      refine htake 17 rfl (by kernel_rfl) (y_slS_lo rfl Try.underlying30 z_size38 rfl rfl (by omega) (by omega)) rfl rfl rfl (fun _ h => (h.sub (by first | exact S0 | exact S1 | repeat (first | exact S1 | exact S0 | apply S2 | apply S3)))) H249 ?_
                      clear H249; intro a250 H250
                      refine hgo 10 rfl (by kernel_rfl) ?_
                      refine st_buildSlice rfl Try.underlying30 z_size38 z_zero38 rfl rfl rfl (lay_agg (agg_cells _) wx.len rfl) rfl rfl rfl H250 ?_
                      clear H250; intro b251 a251 wx251 H251
                      refine hfinA H251.sep ?_
                      refine hgo 11 rfl (by kernel_rfl) ?_
                      refine st_append rfl z_slice30 z_notint30 rfl rfl (fun _ => (by repeat (first | exact Uh | apply Ut))) (fun w hs => Src.slice ((rd_blkA (by repeat (first | exact Mh | apply Mt))) w hs) wx.len (Pool.wait_cell _)) (by unfold maxLen at *; omega) (by omega) rfl rfl rfl H251 ?_
                      clear H251; intro v252 a252 wx252 hnil252 H252
                      obtain ⟨Ar252, cr252, hvr252, hRr252, hmr252⟩ := row_shape (v := v252) H252.sep (by repeat (first | exact Mh | apply Mt))
                      subst hvr252
                      refine hfinA H252.sep ?_
                      refine hgo 18 rfl (by kernel_rfl) ?_
                      refine st_append rfl z_slice30 z_notint30 rfl rfl (fun _ => (by repeat (first | exact Uh | apply Ut))) (fun w hs => Src.slice ((Pool.rds hLL (rd_row (by repeat (first | exact Mh | apply Mt))) (((Pool.pos (Pool.left size L) x : Nat) : Int).toNat) c3 hcap3) w hs) hsB (Pool.wc_cell _)) (by unfold maxLen at *; omega) (by omega) rfl rfl rfl H252 ?_
                      clear H252; intro v253 a253 wx253 hnil253 H253
                      obtain ⟨ArW, crW, hvrW, hRrW, hmrW⟩ := row_shape (v := v253) H253.sep (by repeat (first | exact Mh | apply Mt))
                      subst hvrW
                      refine hfinA H253.sep ?_
                      refine htake 19 rfl (by kernel_rfl) (y_nilCheck rfl rfl) rfl rfl rfl (fun _ h => (h.sub (by first | exact S0 | exact S1 | repeat (first | exact S1 | exact S0 | apply S2 | apply S3)))) H253 ?_
                      clear H253; intro a254 H254
                      refine htake 20 rfl (by kernel_rfl) (y_fieldB rfl z_field63_1 rfl (by first | (simp only [Nat.zero_add, Nat.add_zero, Nat.reduceAdd]; rfl) | rfl)) rfl rfl rfl (fun _ h => (h.sub (by first | exact S0 | exact S1 | repeat (first | exact S1 | exact S0 | apply S2 | apply S3)))) H254 ?_
                      clear H254; intro a255 H255
                      refine hgo 21 rfl (by kernel_rfl) ?_
                      refine st_store1N rfl z_size30 rfl rfl rfl (by repeat (first | exact Uh | apply Ut)) q_len_c2 q_set_c2_1 (by decide) rfl rfl H255 ?_
                      clear H255; intro wx256 H256
                      refine hfinA H256.sep ?_
                      refine hdone (by kernel_rfl) ?_
                      refine cut_n ?_
                      have hsx := H256.sep.sub (l' := [It.row _ 76 (.slice ArW _ crW) _ _, It.blk bp 63 _, It.blk b168 38 _, It.blk b2 38 _]) (by repeat (first | exact S1 | exact S0 | apply S2 | apply S3))
                      simp only [List.nil_append, Int.toNat_natCast, Nat.zero_add, Pool.ins_cells, Pool.ins_count] at hsx
                      exact ⟨_, H256.fr.weak ⟨rfl, rfl, rfl, trivial⟩, hsx⟩
                  · skip
                    refine st_buildSlice rfl Try.underlying30 z_size38 z_zero38 rfl rfl rfl (lay_agg (agg_cells _) wx.len rfl) rfl rfl rfl H232 ?_
                    clear H232; intro b257 a257 wx257 H257
                    refine hfinA H257.sep ?_
                    refine hgo2 8 15 rfl rfl (by kernel_rfl) ?_ ?_
                    · skip
                      replace H257 := H257.asRow (b := b230) (size := 76) (m := 0) (by repeat (first | exact Uh | apply Ut)) rfl (by unfold maxLen; omega)
                      refine st_append rfl z_slice30 z_notint30 rfl rfl (fun _ => (by repeat (first | exact Uh | apply Ut))) (fun w hs => Src.slice ((Pool.rdp hLL (rd_row (by repeat (first | exact Mh | apply Mt))) (((Pool.pos (Pool.left size L) x : Nat) : Int).toNat)) w hs) hsA (Pool.wc_cell _)) (by unfold maxLen at *; omega) (by omega) rfl rfl rfl H257 ?_
                      clear H257; intro v258 a258 wx258 hnil258 H258
                      obtain ⟨Ar258, cr258, hvr258, hRr258, hmr258⟩ := row_shape (v := v258) H258.sep (by repeat (first | exact Mh | apply Mt))
                      subst hvr258
                      refine hfinA H258.sep ?_
                      refine hgo2 11 15 rfl rfl (by kernel_rfl) ?_ ?_
                      · skip
                        refine st_append rfl z_slice30 z_notint30 rfl rfl (fun _ => (by repeat (first | exact Uh | apply Ut))) (fun w hs => Src.slice ((rd_blkA (by repeat (first | exact Mh | apply Mt))) w hs) wx.len (Pool.wait_cell _)) (by unfold maxLen at *; omega) (by omega) rfl rfl rfl H258 ?_
                        clear H258; intro v259 a259 wx259 hnil259 H259
                        obtain ⟨Ar259, cr259, hvr259, hRr259, hmr259⟩ := row_shape (v := v259) H259.sep (by repeat (first | exact Mh | apply Mt))
                        subst hvr259
                        refine hfinA H259.sep ?_
                        refine hgo 15 rfl (by kernel_rfl) ?_
                        refine plain (y_loadB rfl z_agg30 rfl (by repeat (first | exact Mh | apply Mt)) q_ix_c2_1) rfl rfl rfl H259 ?_
                        clear H259; intro a260 H260
                        refine hfinA H260.sep ?_
                        refine htake 17 rfl (by kernel_rfl) (y_slS_lo rfl Try.underlying30 z_size38 rfl rfl (by omega) (by omega)) rfl rfl rfl (fun _ h => (h.sub (by first | exact S0 | exact S1 | repeat (first | exact S1 | exact S0 | apply S2 | apply S3)))) H260 ?_
                        clear H260; intro a261 H261
                        refine hgo 18 rfl (by kernel_rfl) ?_
                        refine st_append rfl z_slice30 z_notint30 rfl rfl (fun _ => (by repeat (first | exact Uh | apply Ut))) (fun w hs => Src.slice ((Pool.rds hLL (rd_row (by repeat (first | exact Mh | apply Mt))) (((Pool.pos (Pool.left size L) x : Nat) : Int).toNat) c3 hcap3) w hs) hsB (Pool.wc_cell _)) (by unfold maxLen at *; omega) (by omega) rfl rfl rfl H261 ?_
                        clear H261; intro v262 a262 wx262 hnil262 H262
                        obtain ⟨ArW, crW, hvrW, hRrW, hmrW⟩ := row_shape (v := v262) H262.sep (by repeat (first | exact Mh | apply Mt))
                        subst hvrW
                        refine hfinA H262.sep ?_
                        refine htake 19 rfl (by kernel_rfl) (y_nilCheck rfl rfl) rfl rfl rfl (fun _ h => (h.sub (by first | exact S0 | exact S1 | repeat (first | exact S1 | exact S0 | apply S2 | apply S3)))) H262 ?_
                        clear H262; intro a263 H263
                        refine htake 20 rfl (by kernel_rfl) (y_fieldB rfl z_field63_1 rfl (by first | (simp only [Nat.zero_add, Nat.add_zero, Nat.reduceAdd]; rfl) | rfl)) rfl rfl rfl (fun _ h => (h.sub (by first | exact S0 | exact S1 | repeat (first | exact S1 | exact S0 | apply S2 | apply S3)))) H263 ?_
                        clear H263; intro a264 H264
                        refine hgo 21 rfl (by kernel_rfl) ?_
                        refine st_store1N rfl z_size30 rfl rfl rfl (by repeat (first | exact Uh | apply Ut)) q_len_c2 q_set_c2_1 (by decide) rfl rfl H264 ?_
                        clear H264; intro wx265 H265
                        refine hfinA H265.sep ?_
                        refine hdone (by kernel_rfl) ?_
                        refine cut_n ?_
                        have hsx := H265.sep.sub (l' := [It.row _ 76 (.slice ArW _ crW) _ _, It.blk bp 63 _, It.blk b168 38 _, It.blk b2 38 _]) (by repeat (first | exact S1 | exact S0 | apply S2 | apply S3))
                        simp only [List.nil_append, Int.toNat_natCast, Nat.zero_add, Pool.ins_cells, Pool.ins_count] at hsx
                        exact ⟨_, H265.fr.weak ⟨rfl, rfl, rfl, trivial⟩, hsx⟩
                      · skip
                        refine plain (y_loadB rfl z_agg30 rfl (by repeat (first | exact Mh | apply Mt)) q_ix_c2_1) rfl rfl rfl H258 ?_
                        clear H258; intro a266 H266
                        refine hfinA H266.sep ?_
                        refine htake 17 rfl (by kernel_rfl) (y_slS_lo rfl Try.underlying30 z_size38 rfl rfl (by omega) (by omega)) rfl rfl rfl (fun _ h => (h.sub (by first | exact S0 | exact S1 | repeat (first | exact S1 | exact S0 | apply S2 | apply S3)))) H266 ?_
                        clear H266; intro a267 H267
                        refine hgo 11 rfl (by kernel_rfl) ?_
                        refine st_append rfl z_slice30 z_notint30 rfl rfl (fun _ => (by repeat (first | exact Uh | apply Ut))) (fun w hs => Src.slice ((rd_blkA (by repeat (first | exact Mh | apply Mt))) w hs) wx.len (Pool.wait_cell _)) (by unfold maxLen at *; omega) (by omega) rfl rfl rfl H267 ?_
                        clear H267; intro v268 a268 wx268 hnil268 H268
                        obtain ⟨Ar268, cr268, hvr268, hRr268, hmr268⟩ := row_shape (v := v268) H268.sep (by repeat (first | exact Mh | apply Mt))
                        subst hvr268
                        refine hfinA H268.sep ?_
                        refine hgo 18 rfl (by kernel_rfl) ?_
                        refine st_append rfl z_slice30 z_notint30 rfl rfl (fun _ => (by repeat (first | exact Uh | apply Ut))) (fun w hs => Src.slice ((Pool.rds hLL (rd_row (by repeat (first | exact Mh | apply Mt))) (((Pool.pos (Pool.left size L) x : Nat) : Int).toNat) c3 hcap3) w hs) hsB (Pool.wc_cell _)) (by unfold maxLen at *; omega) (by omega) rfl rfl rfl H268 ?_
                        clear H268; intro v269 a269 wx269 hnil269 H269
                        obtain ⟨ArW, crW, hvrW, hRrW, hmrW⟩ := row_shape (v := v269) H269.sep (by repeat (first | exact Mh | apply Mt))
                        subst hvrW
                        refine hfinA H269.sep ?_
                        refine htake 19 rfl (by kernel_rfl) (y_nilCheck rfl rfl) rfl rfl rfl (fun _ h => (h.sub (by first | exact S0 | exact S1 | repeat (first | exact S1 | exact S0 | apply S2 | apply S3)))) H269 ?_
                        clear H269; intro a270 H270
                        refine htake 20 rfl (by kernel_rfl) (y_fieldB rfl z_field63_1 rfl (by first | (simp only [Nat.zero_add, Nat.add_zero, Nat.reduceAdd]; rfl) | rfl)) rfl rfl rfl (fun _ h => (h.sub (by first | exact S0 | exact S1 | repeat (first | exact S1 | exact S0 | apply S2 | apply S3)))) H270 ?_
                        clear H270; intro a271 H271
                        refine hgo 21 rfl (by kernel_rfl) ?_
                        refine st_store1N rfl z_size30 rfl rfl rfl (by repeat (first | exact Uh | apply Ut)) q_len_c2 q_set_c2_1 (by decide) rfl rfl H271 ?_
                        clear H271; intro wx272 H272
                        refine hfinA H272.sep ?_
                        refine hdone (by kernel_rfl) ?_
                        refine cut_n ?_
                        have hsx := H272.sep.sub (l' := [It.row _ 76 (.slice ArW _ crW) _ _, It.blk bp 63 _, It.blk b168 38 _, It.blk b2 38 _]) (by repeat (first | exact S1 | exact S0 | apply S2 | apply S3))
                        simp only [List.nil_append, Int.toNat_natCast, Nat.zero_add, Pool.ins_cells, Pool.ins_count] at hsx
                        exact ⟨_, H272.fr.weak ⟨rfl, rfl, rfl, trivial⟩, hsx⟩
                    · skip
                      refine plain (y_loadB rfl z_agg30 rfl (by repeat (first | exact Mh | apply Mt)) q_ix_c2_1) rfl rfl rfl H257 ?_
                      clear H257; intro a273 H273
                      refine hfinA H273.sep ?_
                      refine htake 17 rfl (by kernel_rfl) (y_slS_lo rfl Try.underlying30 z_size38 rfl rfl (by omega) (by omega)) rfl rfl rfl (fun _ h => (h.sub (by first | exact S0 | exact S1 | repeat (first | exact S1 | exact S0 | apply S2 | apply S3)))) H273 ?_
                      clear H273; intro a274 H274
                      refine hgo 8 rfl (by kernel_rfl) ?_
                      replace H274 := H274.asRow (b := b230) (size := 76) (m := 0) (by repeat (first | exact Uh | apply Ut)) rfl (by unfold maxLen; omega)
                      refine st_append rfl z_slice30 z_notint30 rfl rfl (fun _ => (by repeat (first | exact Uh | apply Ut))) (fun w hs => Src.slice ((Pool.rdp hLL (rd_row (by repeat (first | exact Mh | apply Mt))) (((Pool.pos (Pool.left size L) x : Nat) : Int).toNat)) w hs) hsA (Pool.wc_cell _)) (by unfold maxLen at *; omega) (by omega) rfl rfl rfl H274 ?_
                      clear H274; intro v275 a275 wx275 hnil275 H275
                      obtain ⟨Ar275, cr275, hvr275, hRr275, hmr275⟩ := row_shape (v := v275) H275.sep (by repeat (first | exact Mh | apply Mt))
                      subst hvr275
                      refine hfinA H275.sep ?_
                      refine hgo 11 rfl (by kernel_rfl) ?_
                      refine st_append rfl z_slice30 z_notint30 rfl rfl (fun _ => (by repeat (first | exact Uh | apply Ut))) (fun w hs => Src.slice ((rd_blkA (by repeat (first | exact Mh | apply Mt))) w hs) wx.len (Pool.wait_cell _)) (by unfold maxLen at *; omega) (by omega) rfl rfl rfl H275 ?_
                      clear H275; intro v276 a276 wx276 hnil276 H276
                      obtain ⟨Ar276, cr276, hvr276, hRr276, hmr276⟩ := row_shape (v := v276) H276.sep (by repeat (first | exact Mh | apply Mt))
                      subst hvr276
                      refine hfinA H276.sep ?_
                      refine hgo 18 rfl (by kernel_rfl) ?_
                      refine st_append rfl z_slice30 z_notint30 rfl rfl (fun _ => (by repeat (first | exact Uh | apply Ut))) (fun w hs => Src.slice ((Pool.rds hLL (rd_row (by repeat (first | exact Mh | apply Mt))) (((Pool.pos (Pool.left size L) x : Nat) : Int).toNat) c3 hcap3) w hs) hsB (Pool.wc_cell _)) (by unfold maxLen at *; omega) (by omega) rfl rfl rfl H276 ?_
                      clear H276; intro v277 a277 wx277 hnil277 H277
                      obtain ⟨ArW, crW, hvrW, hRrW, hmrW⟩ := row_shape (v := v277) H277.sep (by repeat (first | exact Mh | apply Mt))
                      subst hvrW
                      refine hfinA H277.sep ?_
                      refine htake 19 rfl (by kernel_rfl) (y_nilCheck rfl rfl) rfl rfl rfl (fun _ h => (h.sub (by first | exact S0 | exact S1 | repeat (first | exact S1 | exact S0 | apply S2 | apply S3)))) H277 ?_
                      clear H277; intro a278 H278
                      refine htake 20 rfl (by kernel_rfl) (y_fieldB rfl z_field63_1 rfl (by first | (simp only [Nat.zero_add, Nat.add_zero, Nat.reduceAdd]; rfl) | rfl)) rfl rfl rfl (fun _ h => (h.sub (by first | exact S0 | exact S1 | repeat (first | exact S1 | exact S0 | apply S2 | apply S3)))) H278 ?_
                      clear H278; intro a279 H279
                      refine hgo 21 rfl (by kernel_rfl) ?_
                      refine st_store1N rfl z_size30 rfl rfl rfl (by repeat (first | exact Uh | apply Ut)) q_len_c2 q_set_c2_1 (by decide) rfl rfl H279 ?_
                      clear H279; intro wx280 H280
                      refine hfinA H280.sep ?_
                      refine hdone (by kernel_rfl) ?_
                      refine cut_n ?_
                      have hsx := H280.sep.sub (l' := [It.row _ 76 (.slice ArW _ crW) _ _, It.blk bp 63 _, It.blk b168 38 _, It.blk b2 38 _]) (by repeat (first | exact S1 | exact S0 | apply S2 | apply S3))
                      simp only [List.nil_append, Int.toNat_natCast, Nat.zero_add, Pool.ins_cells, Pool.ins_count] at hsx
                      exact ⟨_, H280.fr.weak ⟨rfl, rfl, rfl, trivial⟩, hsx⟩
                  · skip
                    refine plain (y_loadB rfl z_agg30 rfl (by repeat (first | exact Mh | apply Mt)) q_ix_c2_1) rfl rfl rfl H232 ?_
                    clear H232; intro a281 H281
                    refine hfinA H281.sep ?_
                    refine htake 17 rfl (by kernel_rfl) (y_slS_lo rfl Try.underlying30 z_size38 rfl rfl (by omega) (by omega)) rfl rfl rfl (fun _ h => (h.sub (by first | exact S0 | exact S1 | repeat (first | exact S1 | exact S0 | apply S2 | apply S3)))) H281 ?_
                    clear H281; intro a282 H282
                    refine hgo2 8 10 rfl rfl (by kernel_rfl) ?_ ?_
                    · skip
                      replace H282 := H282.asRow (b := b230) (size := 76) (m := 0) (by repeat (first | exact Uh | apply Ut)) rfl (by unfold maxLen; omega)
                      refine st_append rfl z_slice30 z_notint30 rfl rfl (fun _ => (by repeat (first | exact Uh | apply Ut))) (fun w hs => Src.slice ((Pool.rdp hLL (rd_row (by repeat (first | exact Mh | apply Mt))) (((Pool.pos (Pool.left size L) x : Nat) : Int).toNat)) w hs) hsA (Pool.wc_cell _)) (by unfold maxLen at *; omega) (by omega) rfl rfl rfl H282 ?_
                      clear H282; intro v283 a283 wx283 hnil283 H283
                      obtain ⟨Ar283, cr283, hvr283, hRr283, hmr283⟩ := row_shape (v := v283) H283.sep (by repeat (first | exact Mh | apply Mt))
                      subst hvr283
                      refine hfinA H283.sep ?_
                      refine hgo 10 rfl (by kernel_rfl) ?_
                      refine st_buildSlice rfl Try.underlying30 z_size38 z_zero38 rfl rfl rfl (lay_agg (agg_cells _) wx.len rfl) rfl rfl rfl H283 ?_
                      clear H283; intro b284 a284 wx284 H284
                      refine hfinA H284.sep ?_
                      refine hgo 11 rfl (by kernel_rfl) ?_
                      refine st_append rfl z_slice30 z_notint30 rfl rfl (fun _ => (by repeat (first | exact Uh | apply Ut))) (fun w hs => Src.slice ((rd_blkA (by repeat (first | exact Mh | apply Mt))) w hs) wx.len (Pool.wait_cell _)) (by unfold maxLen at *; omega) (by omega) rfl rfl rfl H284 ?_
                      clear H284; intro v285 a285 wx285 hnil285 H285
                      obtain ⟨Ar285, cr285, hvr285, hRr285, hmr285⟩ := row_shape (v := v285) H285.sep (by repeat (first | exact Mh | apply Mt))
                      subst hvr285
                      refine hfinA H285.sep ?_
                      refine hgo 18 rfl (by kernel_rfl) ?_
                      refine st_append rfl z_slice30 z_notint30 rfl rfl (fun _ => (by repeat (first | exact Uh | apply Ut))) (fun w hs => Src.slice ((Pool.rds hLL (rd_row (by repeat (first | exact Mh | apply Mt))) (((Pool.pos (Pool.left size L) x : Nat) : Int).toNat) c3 hcap3) w hs) hsB (Pool.wc_cell _)) (by unfold maxLen at *; omega) (by omega) rfl rfl rfl H285 ?_
                      clear H285; intro v286 a286 wx286 hnil286 H286
                      obtain ⟨ArW, crW, hvrW, hRrW, hmrW⟩ := row_shape (v := v286) H286.sep (by repeat (first | exact Mh | apply Mt))
                      subst hvrW
                      refine hfinA H286.sep ?_
                      refine htake 19 rfl (by kernel_rfl) (y_nilCheck rfl rfl) rfl rfl rfl (fun _ h => (h.sub (by first | exact S0 | exact S1 | repeat (first | exact S1 | exact S0 | apply S2 | apply S3)))) H286 ?_
                      clear H286; intro a287 H287
                      refine htake 20 rfl (by kernel_rfl) (y_fieldB rfl z_field63_1 rfl (by first | (simp only [Nat.zero_add, Nat.add_zero, Nat.reduceAdd]; rfl) | rfl)) rfl rfl rfl (fun _ h => (h.sub (by first | exact S0 | exact S1 | repeat (first | exact S1 | exact S0 | apply S2 | apply S3)))) H287 ?_
                      clear H287; intro a288 H288
                      refine hgo 21 rfl (by kernel_rfl) ?_
                      refine st_store1N rfl z_size30 rfl rfl rfl (by repeat (first | exact Uh | apply Ut)) q_len_c2 q_set_c2_1 (by decide) rfl rfl H288 ?_
                      clear H288; intro wx289 H289
                      refine hfinA H289.sep ?_
                      refine hdone (by kernel_rfl) ?_
                      refine cut_n ?_
                      have hsx := H289.sep.sub (l' := [It.row _ 76 (.slice ArW _ crW) _ _, It.blk bp 63 _, It.blk b168 38 _, It.blk b2 38 _]) (by repeat (first | exact S1 | exact S0 | apply S2 | apply S3))
                      simp only [List.nil_append, Int.toNat_natCast, Nat.zero_add, Pool.ins_cells, Pool.ins_count] at hsx
                      exact ⟨_, H289.fr.weak ⟨rfl, rfl, rfl, trivial⟩, hsx⟩
                    · skip
                      refine st_buildSlice rfl Try.underlying30 z_size38 z_zero38 rfl rfl rfl (lay_agg (agg_cells _) wx.len rfl) rfl rfl rfl H282 ?_
                      clear H282; intro b290 a290 wx290 H290
                      refine hfinA H290.sep ?_
                      refine hgo 8 rfl (by kernel_rfl) ?_
                      replace H290 := H290.asRow (b := b230) (size := 76) (m := 0) (by repeat (first | exact Uh | apply Ut)) rfl (by unfold maxLen; omega)
                      refine st_append rfl z_slice30 z_notint30 rfl rfl (fun _ => (by repeat (first | exact Uh | apply Ut))) (fun w hs => Src.slice ((Pool.rdp hLL (rd_row (by repeat (first | exact Mh | apply Mt))) (((Pool.pos (Pool.left size L) x : Nat) : Int).toNat)) w hs) hsA (Pool.wc_cell _)) (by unfold maxLen at *; omega) (by omega) rfl rfl rfl H290 ?_
                      clear H290; intro v291 a291 wx291 hnil291 H291
                      obtain ⟨Ar291, cr291, hvr291, hRr291, hmr291⟩ := row_shape (v := v291) H291.sep (by repeat (first | exact Mh | apply Mt))
                      subst hvr291
                      refine hfinA H291.sep ?_
                      refine hgo 11 rfl (by kernel_rfl) ?_
                      refine st_append rfl z_slice30 z_notint30 rfl rfl (fun _ => (by repeat (first | exact Uh | apply Ut))) (fun w hs => Src.slice ((rd_blkA (by repeat (first | exact Mh | apply Mt))) w hs) wx.len (Pool.wait_cell _)) (by unfold maxLen at *; omega) (by omega) rfl rfl rfl H291 ?_
                      clear H291; intro v292 a292 wx292 hnil292 H292
                      obtain ⟨Ar292, cr292, hvr292, hRr292, hmr292⟩ := row_shape (v := v292) H292.sep (by repeat (first | exact Mh | apply Mt))
                      subst hvr292
                      refine hfinA H292.sep ?_
                      refine hgo 18 rfl (by kernel_rfl) ?_
                      refine st_append rfl z_slice30 z_notint30 rfl rfl (fun _ => (by repeat (first | exact Uh | apply Ut))) (fun w hs => Src.slice ((Pool.rds hLL (rd_row (by repeat (first | exact Mh | apply Mt))) (((Pool.pos (Pool.left size L) x : Nat) : Int).toNat) c3 hcap3) w hs) hsB (Pool.wc_cell _)) (by unfold maxLen at *; omega) (by omega) rfl rfl rfl H292 ?_
                      clear H292; intro v293 a293 wx293 hnil293 H293
                      obtain ⟨ArW, crW, hvrW, hRrW, hmrW⟩ := row_shape (v := v293) H293.sep (by repeat (first | exact Mh | apply Mt))
                      subst hvrW
                      refine hfinA H293.sep ?_
                      refine htake 19 rfl (by kernel_rfl) (y_nilCheck rfl rfl) rfl rfl rfl (fun _ h => (h.sub (by first | exact S0 | exact S1 | repeat (first | exact S1 | exact S0 | apply S2 | apply S3)))) H293 ?_
                      clear H293; intro a294 H294
                      refine htake 20 rfl (by kernel_rfl) (y_fieldB rfl z_field63_1 rfl (by first | (simp only [Nat.zero_add, Nat.add_zero, Nat.reduceAdd]; rfl) | rfl)) rfl rfl rfl (fun _ h => (h.sub (by first | exact S0 | exact S1 | repeat (first | exact S1 | exact S0 | apply S2 | apply S3)))) H294 ?_
                      clear H294; intro a295 H295
                      refine hgo 21 rfl (by kernel_rfl) ?_
                      refine st_store1N rfl z_size30 rfl rfl rfl (by repeat (first | exact Uh | apply Ut)) q_len_c2 q_set_c2_1 (by decide) rfl rfl H295 ?_
                      clear H295; intro wx296 H296
                      refine hfinA H296.sep ?_
                      refine hdone (by kernel_rfl) ?_
                      refine cut_n ?_
                      have hsx := H296.sep.sub (l' := [It.row _ 76 (.slice ArW _ crW) _ _, It.blk bp 63 _, It.blk b168 38 _, It.blk b2 38 _]) (by repeat (first | exact S1 | exact S0 | apply S2 | apply S3))
                      simp only [List.nil_append, Int.toNat_natCast, Nat.zero_add, Pool.ins_cells, Pool.ins_count] at hsx
                      exact ⟨_, H296.fr.weak ⟨rfl, rfl, rfl, trivial⟩, hsx⟩
                · skip
                  refine st_buildSlice rfl Try.underlying30 z_size38 z_zero38 rfl rfl rfl (lay_agg (agg_cells _) wx.len rfl) rfl rfl rfl H230 ?_
                  clear H230; intro b297 a297 wx297 H297
                  refine hfinA H297.sep ?_
                  refine hgo2 5 15 rfl rfl (by kernel_rfl) ?_ ?_
                  · skip
                    refine plain (y_loadB rfl z_agg30 rfl (by repeat (first | exact Mh | apply Mt)) q_ix_c2_1) rfl rfl rfl H297 ?_
                    clear H297; intro a298 H298
                    refine hfinA H298.sep ?_
                    refine htake 7 rfl (by kernel_rfl) (y_slS_hi rfl Try.underlying30 z_size38 rfl rfl (by omega) (by omega) (by omega)) rfl rfl rfl (fun _ h => (h.sub (by first | exact S0 | exact S1 | repeat (first | exact S1 | exact S0 | apply S2 | apply S3)))) H298 ?_
                    clear H298; intro a299 H299
                    refine hgo2 8 15 rfl rfl (by kernel_rfl) ?_ ?_
                    · skip
                      replace H299 := H299.asRow (b := b230) (size := 76) (m := 0) (by repeat (first | exact Uh | apply Ut)) rfl (by unfold maxLen; omega)
                      refine st_append rfl z_slice30 z_notint30 rfl rfl (fun _ => (by repeat (first | exact Uh | apply Ut))) (fun w hs => Src.slice ((Pool.rdp hLL (rd_row (by repeat (first | exact Mh | apply Mt))) (((Pool.pos (Pool.left size L) x : Nat) : Int).toNat)) w hs) hsA (Pool.wc_cell _)) (by unfold maxLen at *; omega) (by omega) rfl rfl rfl H299 ?_
                      clear H299; intro v300 a300 wx300 hnil300 H300
                      obtain ⟨Ar300, cr300, hvr300, hRr300, hmr300⟩ := row_shape (v := v300) H300.sep (by repeat (first | exact Mh | apply Mt))
                      subst hvr300
                      refine hfinA H300.sep ?_
                      refine hgo2 11 15 rfl rfl (by kernel_rfl) ?_ ?_
                      · skip
                        refine st_append rfl z_slice30 z_notint30 rfl rfl (fun _ => (by repeat (first | exact Uh | apply Ut))) (fun w hs => Src.slice ((rd_blkA (by repeat (first | exact Mh | apply Mt))) w hs) wx.len (Pool.wait_cell _)) (by unfold maxLen at *; omega) (by omega) rfl rfl rfl H300 ?_
                        clear H300; intro v301 a301 wx301 hnil301 H301
                        obtain ⟨Ar301, cr301, hvr301, hRr301, hmr301⟩ := row_shape (v := v301) H301.sep (by repeat (first | exact Mh | apply Mt))
                        subst hvr301
                        refine hfinA H301.sep ?_
                        refine hgo 15 rfl (by kernel_rfl) ?_
                        refine plain (y_loadB rfl z_agg30 rfl (by repeat (first | exact Mh | apply Mt)) q_ix_c2_1) rfl rfl rfl H301 ?_
                        clear H301; intro a302 H302
                        refine hfinA H302.sep ?_
                        refine htake 17 rfl (by kernel_rfl) (y_slS_lo rfl Try.underlying30 z_size38 rfl rfl (by omega) (by omega)) rfl rfl rfl (fun _ h => (h.sub (by first | exact S0 | exact S1 | repeat (first | exact S1 | exact S0 | apply S2 | apply S3)))) H302 ?_
                        clear H302; intro a303 H303
                        refine hgo 18 rfl (by kernel_rfl) ?_
                        refine st_append rfl z_slice30 z_notint30 rfl rfl (fun _ => (by repeat (first | exact Uh | apply Ut))) (fun w hs => Src.slice ((Pool.rds hLL (rd_row (by repeat (first | exact Mh | apply Mt))) (((Pool.pos (Pool.left size L) x : Nat) : Int).toNat) c3 hcap3) w hs) hsB (Pool.wc_cell _)) (by unfold maxLen at *; omega) (by omega) rfl rfl rfl H303 ?_
                        clear H303; intro v304 a304 wx304 hnil304 H304
                        obtain ⟨ArW, crW, hvrW, hRrW, hmrW⟩ := row_shape (v := v304) H304.sep (by repeat (first | exact Mh | apply Mt))
                        subst hvrW
                        refine hfinA H304.sep ?_
                        refine htake 19 rfl (by kernel_rfl) (y_nilCheck rfl rfl) rfl rfl rfl (fun _ h => (h.sub (by first | exact S0 | exact S1 | repeat (first | exact S1 | exact S0 | apply S2 | apply S3)))) H304 ?_
                        clear H304; intro a305 H305
                        refine htake 20 rfl (by kernel_rfl) (y_fieldB rfl z_field63_1 rfl (by first | (simp only [Nat.zero_add, Nat.add_zero, Nat.reduceAdd]; rfl) | rfl)) rfl rfl rfl (fun _ h => (h.sub (by first | exact S0 | exact S1 | repeat (first | exact S1 | exact S0 | apply S2 | apply S3)))) H305 ?_
                        clear H305; intro a306 H306
                        refine hgo 21 rfl (by kernel_rfl) ?_
                        refine st_store1N rfl z_size30 rfl rfl rfl (by repeat (first | exact Uh | apply Ut)) q_len_c2 q_set_c2_1 (by decide) rfl rfl H306 ?_
                        clear H306; intro wx307 H307
                        refine hfinA H307.sep ?_
                        refine hdone (by kernel_rfl) ?_
                        refine cut_n ?_
                        have hsx := H307.sep.sub (l' := [It.row _ 76 (.slice ArW _ crW) _ _, It.blk bp 63 _, It.blk b168 38 _, It.blk b2 38 _]) (by repeat (first | exact S1 | exact S0 | apply S2 | apply S3))
                        simp only [List.nil_append, Int.toNat_natCast, Nat.zero_add, Pool.ins_cells, Pool.ins_count] at hsx
                        exact ⟨_, H307.fr.weak ⟨rfl, rfl, rfl, trivial⟩, hsx⟩
                      · skip
                        refine plain (y_loadB rfl z_agg30 rfl (by repeat (first | exact Mh | apply Mt)) q_ix_c2_1) rfl rfl rfl H300 ?_
                        clear H300; intro a308 H308
                        refine hfinA H308.sep ?_
                        refine htake 17 rfl (by kernel_rfl) (y_slS_lo rfl Try.underlying30 z_size38 rfl rfl (by omega) (by omega)) rfl rfl rfl (fun _ h => (h.sub (by first | exact S0 | exact S1 | repeat (first | exact S1 | exact S0 | apply S2 | apply S3)))) H308 ?_
                        clear H308; intro a309 H309
                        refine hgo 11 rfl (by kernel_rfl) ?_
                        refine st_append rfl z_slice30 z_notint30 rfl rfl (fun _ => (by repeat (first | exact Uh | apply Ut))) (fun w hs => Src.slice ((rd_blkA (by repeat (first | exact Mh | apply Mt))) w hs) wx.len (Pool.wait_cell _)) (by unfold maxLen at *; omega) (by omega) rfl rfl rfl H309 ?_
                        clear H309; intro v310 a310 wx310 hnil310 H310
                        obtain ⟨Ar310, cr310, hvr310, hRr310, hmr310⟩ := row_shape (v := v310) H310.sep (by repeat (first | exact Mh | apply Mt))
                        subst hvr310
                        refine hfinA H310.sep ?_
                        refine hgo 18 rfl (by kernel_rfl) ?_
                        refine st_append rfl z_slice30 z_notint30 rfl rfl (fun _ => (by repeat (first | exact Uh | apply Ut))) (fun w hs => Src.slice ((Pool.rds hLL (rd_row (by repeat (first | exact Mh | apply Mt))) (((Pool.pos (Pool.left size L) x : Nat) : Int).toNat) c3 hcap3) w hs) hsB (Pool.wc_cell _)) (by unfold maxLen at *; omega) (by omega) rfl rfl rfl H310 ?_
                        clear H310; intro v311 a311 wx311 hnil311 H311
                        obtain ⟨ArW, crW, hvrW, hRrW, hmrW⟩ := row_shape (v := v311) H311.sep (by repeat (first | exact Mh | apply Mt))
                        subst hvrW
                        refine hfinA H311.sep ?_
                        refine htake 19 rfl (by kernel_rfl) (y_nilCheck rfl rfl) rfl rfl rfl (fun _ h => (h.sub (by first | exact S0 | exact S1 | repeat (first | exact S1 | exact S0 | apply S2 | apply S3)))) H311 ?_
                        clear H311; intro a312 H312
                        refine htake 20 rfl (by kernel_rfl) (y_fieldB rfl z_field63_1 rfl (by first | (simp only [Nat.zero_add, Nat.add_zero, Nat.reduceAdd]; rfl) | rfl)) rfl rfl rfl (fun _ h => (h.sub (by first | exact S0 | exact S1 | repeat (first | exact S1 | exact S0 | apply S2 | apply S3)))) H312 ?_
                        clear H312; intro a313 H313
                        refine hgo 21 rfl (by kernel_rfl) ?_
                        refine st_store1N rfl z_size30 rfl rfl rfl (by repeat (first | exact Uh | apply Ut)) q_len_c2 q_set_c2_1 (by decide) rfl rfl H313 ?_
                        clear H313; intro wx314 H314
                        refine hfinA H314.sep ?_
                        refine hdone (by kernel_rfl) ?_
                        refine cut_n ?_
                        have hsx := H314.sep.sub (l' := [It.row _ 76 (.slice ArW _ crW) _ _, It.blk bp 63 _, It.blk b168 38 _, It.blk b2 38 _]) (by repeat (first | exact S1 | exact S0 | apply S2 | apply S3))
                        simp only [List.nil_append, Int.toNat_natCast, Nat.zero_add, Pool.ins_cells, Pool.ins_count] at hsx
                        exact ⟨_, H314.fr.weak ⟨rfl, rfl, rfl, trivial⟩, hsx⟩
                    · skip
                      refine plain (y_loadB rfl z_agg30 rfl (by repeat (first | exact Mh | apply Mt)) q_ix_c2_1) rfl rfl rfl H299 ?_
                      clear H299; intro a315 H315
                      refine hfinA H315.sep ?_
                      refine htake 17 rfl (by kernel_rfl) (y_slS_lo rfl Try.underlying30 z_size38 rfl rfl (by omega) (by omega)) rfl rfl rfl (fun _ h => (h.sub (by first | exact S0 | exact S1 | repeat (first | exact S1 | exact S0 | apply S2 | apply S3)))) H315 ?_
                      clear H315; intro a316 H316
                      refine hgo 8 rfl (by kernel_rfl) ?_
                      replace H316 := H316.asRow (b := b230) (size := 76) (m := 0) (by repeat (first | exact Uh | apply Ut)) rfl (by unfold maxLen; omega)
                      refine st_append rfl z_slice30 z_notint30 rfl rfl (fun _ => (by repeat (first | exact Uh | apply Ut))) (fun w hs => Src.slice ((Pool.rdp hLL (rd_row (by repeat (first | exact Mh | apply Mt))) (((Pool.pos (Pool.left size L) x : Nat) : Int).toNat)) w hs) hsA (Pool.wc_cell _)) (by unfold maxLen at *; omega) (by omega) rfl rfl rfl H316 ?_
                      clear H316; intro v317 a317 wx317 hnil317 H317
                      obtain ⟨Ar317, cr317, hvr317, hRr317, hmr317⟩ := row_shape (v := v317) H317.sep (by repeat (first | exact Mh | apply Mt))
                      subst hvr317
                      refine hfinA H317.sep ?_
                      refine hgo 11 rfl (by kernel_rfl) ?_
                      refine st_append rfl z_slice30 z_notint30 rfl rfl (fun _ => (by repeat (first | exact Uh | apply Ut))) (fun w hs => Src.slice ((rd_blkA (by repeat (first | exact Mh | apply Mt))) w hs) wx.len (Pool.wait_cell _)) (by unfold maxLen at *; omega) (by omega) rfl rfl rfl H317 ?_
                      clear H317; intro v318 a318 wx318 hnil318 H318
                      obtain ⟨Ar318, cr318, hvr318, hRr318, hmr318⟩ := row_shape (v := v318) H318.sep (by repeat (first | exact Mh | apply Mt))
                      subst hvr318
                      refine hfinA H318.sep ?_
                      refine hgo 18 rfl (by kernel_rfl) ?_
                      refine st_append rfl z_slice30 z_notint30 rfl rfl (fun _ => (by repeat (first | exact Uh | apply Ut))) (fun w hs => Src.slice ((Pool.rds hLL (rd_row (by repeat (first | exact Mh | apply Mt))) (((Pool.pos (Pool.left size L) x : Nat) : Int).toNat) c3 hcap3) w hs) hsB (Pool.wc_cell _)) (by unfold maxLen at *; omega) (by omega) rfl rfl rfl H318 ?_
                      clear H318; intro v319 a319 wx319 hnil319 H319
                      obtain ⟨ArW, crW, hvrW, hRrW, hmrW⟩ := row_shape (v := v319) H319.sep (by repeat (first | exact Mh | apply Mt))
                      subst hvrW
                      refine hfinA H319.sep ?_
                      refine htake 19 rfl (by kernel_rfl) (y_nilCheck rfl rfl) rfl rfl rfl (fun _ h => (h.sub (by first | exact S0 | exact S1 | repeat (first | exact S1 | exact S0 | apply S2 | apply S3)))) H319 ?_
                      clear H319; intro a320 H320
                      refine htake 20 rfl (by kernel_rfl) (y_fieldB rfl z_field63_1 rfl (by first | (simp only [Nat.zero_add, Nat.add_zero, Nat.reduceAdd]; rfl) | rfl)) rfl rfl rfl (fun _ h => (h.sub (by first | exact S0 | exact S1 | repeat (first | exact S1 | exact S0 | apply S2 | apply S3)))) H320 ?_
                      clear H320; intro a321 H321
                      refine hgo 21 rfl (by kernel_rfl) ?_
                      refine st_store1N rfl z_size30 rfl rfl rfl (by repeat (first | exact Uh | apply Ut)) q_len_c2 q_set_c2_1 (by decide) rfl rfl H321 ?_
                      clear H321; intro wx322 H322
                      refine hfinA H322.sep ?_
                      refine hdone (by kernel_rfl) ?_
                      refine cut_n ?_
                      have hsx := H322.sep.sub (l' := [It.row _ 76 (.slice ArW _ crW) _ _, It.blk bp 63 _, It.blk b168 38 _, It.blk b2 38 _]) (by repeat (first | exact S1 | exact S0 | apply S2 | apply S3))
                      simp only [List.nil_append, Int.toNat_natCast, Nat.zero_add, Pool.ins_cells, Pool.ins_count] at hsx
                      exact ⟨_, H322.fr.weak ⟨rfl, rfl, rfl, trivial⟩, hsx⟩
                  · skip
                    refine plain (y_loadB rfl z_agg30 rfl (by repeat (first | exact Mh | apply Mt)) q_ix_c2_1) rfl rfl rfl H297 ?_
                    clear H297; intro a323 H323
                    refine hfinA H323.sep ?_
                    refine htake 17 rfl (by kernel_rfl) (y_slS_lo rfl Try.underlying30 z_size38 rfl rfl (by omega) (by omega)) rfl rfl rfl (fun _ h => (h.sub (by first | exact S0 | exact S1 | repeat (first | exact S1 | exact S0 | apply S2 | apply S3)))) H323 ?_
                    clear H323; intro a324 H324
                    refine hgo 5 rfl (by kernel_rfl) ?_
                    refine plain (y_loadB rfl z_agg30 rfl (by repeat (first | exact Mh | apply Mt)) q_ix_c2_1) rfl rfl rfl H324 ?_
                    clear H324; intro a325 H325
                    refine hfinA H325.sep ?_
                    refine htake 7 rfl (by kernel_rfl) (y_slS_hi rfl Try.underlying30 z_size38 rfl rfl (by omega) (by omega) (by omega)) rfl rfl rfl (fun _ h => (h.sub (by first | exact S0 | exact S1 | repeat (first | exact S1 | exact S0 | apply S2 | apply S3)))) H325 ?_
                    clear H325; intro a326 H326
                    refine hgo 8 rfl (by kernel_rfl) ?_
                    replace H326 := H326.asRow (b := b230) (size := 76) (m := 0) (by repeat (first | exact Uh | apply Ut)) rfl (by unfold maxLen; omega)
                    refine st_append rfl z_slice30 z_notint30 rfl rfl (fun _ => (by repeat (first | exact Uh | apply Ut))) (fun w hs => Src.slice ((Pool.rdp hLL (rd_row (by repeat (first | exact Mh | apply Mt))) (((Pool.pos (Pool.left size L) x : Nat) : Int).toNat)) w hs) hsA (Pool.wc_cell _)) (by unfold maxLen at *; omega) (by omega) rfl rfl rfl H326 ?_
                    clear H326; intro v327 a327 wx327 hnil327 H327
                    obtain ⟨Ar327, cr327, hvr327, hRr327, hmr327⟩ := row_shape (v := v327) H327.sep (by repeat (first | exact Mh | apply Mt))
                    subst hvr327
                    refine hfinA H327.sep ?_
                    refine hgo 11 rfl (by kernel_rfl) ?_
                    refine st_append rfl z_slice30 z_notint30 rfl rfl (fun _ => (by repeat (first | exact Uh | apply Ut))) (fun w hs => Src.slice ((rd_blkA (by repeat (first | exact Mh | apply Mt))) w hs) wx.len (Pool.wait_cell _)) (by unfold maxLen at *; omega) (by omega) rfl rfl rfl H327 ?_
                    clear H327; intro v328 a328 wx328 hnil328 H328
                    obtain ⟨Ar328, cr328, hvr328, hRr328, hmr328⟩ := row_shape (v := v328) H328.sep (by repeat (first | exact Mh | apply Mt))
                    subst hvr328
                    refine hfinA H328.sep ?_
                    refine hgo 18 rfl (by kernel_rfl) ?_
                    refine st_append rfl z_slice30 z_notint30 rfl rfl (fun _ => (by repeat (first | exact Uh | apply Ut))) (fun w hs => Src.slice ((Pool.rds hLL (rd_row (by repeat (first | exact Mh | apply Mt))) (((Pool.pos (Pool.left size L) x : Nat) : Int).toNat) c3 hcap3) w hs) hsB (Pool.wc_cell _)) (by unfold maxLen at *; omega) (by omega) rfl rfl rfl H328 ?_
                    clear H328; intro v329 a329 wx329 hnil329 H329
                    obtain ⟨ArW, crW, hvrW, hRrW, hmrW⟩ := row_shape (v := v329) H329.sep (by repeat (first | exact Mh | apply Mt))
                    subst hvrW
                    refine hfinA H329.sep ?_
                    refine htake 19 rfl (by kernel_rfl) (y_nilCheck rfl rfl) rfl rfl rfl (fun _ h => (h.sub (by first | exact S0 | exact S1 | repeat (first | exact S1 | exact S0 | apply S2 | apply S3)))) H329 ?_
                    clear H329; intro a330 H330
                    refine htake 20 rfl (by kernel_rfl) (y_fieldB rfl z_field63_1 rfl (by first | (simp only [Nat.zero_add, Nat.add_zero, Nat.reduceAdd]; rfl) | rfl)) rfl rfl rfl (fun _ h => (h.sub (by first | exact S0 | exact S1 | repeat (first | exact S1 | exact S0 | apply S2 | apply S3)))) H330 ?_
                    clear H330; intro a331 H331
                    refine hgo 21 rfl (by kernel_rfl) ?_
                    refine st_store1N rfl z_size30 rfl rfl rfl (by repeat (first | exact Uh | apply Ut)) q_len_c2 q_set_c2_1 (by decide) rfl rfl H331 ?_
                    clear H331; intro wx332 H332
                    refine hfinA H332.sep ?_
                    refine hdone (by kernel_rfl) ?_
                    refine cut_n ?_
                    have hsx := H332.sep.sub (l' := [It.row _ 76 (.slice ArW _ crW) _ _, It.blk bp 63 _, It.blk b168 38 _, It.blk b2 38 _]) (by repeat (first | exact S1 | exact S0 | apply S2 | apply S3))
                    simp only [List.nil_append, Int.toNat_natCast, Nat.zero_add, Pool.ins_cells, Pool.ins_count] at hsx
                    exact ⟨_, H332.fr.weak ⟨rfl, rfl, rfl, trivial⟩, hsx⟩
                · skip
                  refine plain (y_loadB rfl z_agg30 rfl (by repeat (first | exact Mh | apply Mt)) q_ix_c2_1) rfl rfl rfl H230 ?_
                  clear H230; intro a333 H333
                  refine hfinA H333.sep ?_
                  refine htake 17 rfl (by kernel_rfl) (y_slS_lo rfl Try.underlying30 z_size38 rfl rfl (by omega) (by omega)) rfl rfl rfl (fun _ h => (h.sub (by first | exact S0 | exact S1 | repeat (first | exact S1 | exact S0 | apply S2 | apply S3)))) H333 ?_
                  clear H333; intro a334 H334
                  refine hgo2 5 10 rfl rfl (by kernel_rfl) ?_ ?_
                  · skip
                    refine plain (y_loadB rfl z_agg30 rfl (by repeat (first | exact Mh | apply Mt)) q_ix_c2_1) rfl rfl rfl H334 ?_
                    clear H334; intro a335 H335
                    refine hfinA H335.sep ?_
                    refine htake 7 rfl (by kernel_rfl) (y_slS_hi rfl Try.underlying30 z_size38 rfl rfl (by omega) (by omega) (by omega)) rfl rfl rfl (fun _ h => (h.sub (by first | exact S0 | exact S1 | repeat (first | exact S1 | exact S0 | apply S2 | apply S3)))) H335 ?_
                    clear H335; intro a336 H336
                    refine hgo2 8 10 rfl rfl (by kernel_rfl) ?_ ?_
                    · skip
                      replace H336 := H336.asRow (b := b230) (size := 76) (m := 0) (by repeat (first | exact Uh | apply Ut)) rfl (by unfold maxLen; omega)
                      refine st_append rfl z_slice30 z_notint30 rfl rfl (fun _ => (by repeat (first | exact Uh | apply Ut))) (fun w hs => Src.slice ((Pool.rdp hLL (rd_row (by repeat (first | exact Mh | apply Mt))) (((Pool.pos (Pool.left size L) x : Nat) : Int).toNat)) w hs) hsA (Pool.wc_cell _)) (by unfold maxLen at *; omega) (by omega) rfl rfl rfl H336 ?_
                      clear H336; intro v337 a337 wx337 hnil337 H337
                      obtain ⟨Ar337, cr337, hvr337, hRr337, hmr337⟩ := row_shape (v := v337) H337.sep (by repeat (first | exact Mh | apply Mt))
                      subst hvr337
                      refine hfinA H337.sep ?_
                      refine hgo 10 rfl (by kernel_rfl) ?_
                      refine st_buildSlice rfl Try.underlying30 z_size38 z_zero38 rfl rfl rfl (lay_agg (agg_cells _) wx.len rfl) rfl rfl rfl H337 ?_
                      clear H337; intro b338 a338 wx338 H338
                      refine hfinA H338.sep ?_
                      refine hgo 11 rfl (by kernel_rfl) ?_
                      refine st_append rfl z_slice30 z_notint30 rfl rfl (fun _ => (by repeat (first | exact Uh | apply Ut))) (fun w hs => Src.slice ((rd_blkA (by repeat (first | exact Mh | apply Mt))) w hs) wx.len (Pool.wait_cell _)) (by unfold maxLen at *; omega) (by omega) rfl rfl rfl H338 ?_
                      clear H338; intro v339 a339 wx339 hnil339 H339
                      obtain ⟨Ar339, cr339, hvr339, hRr339, hmr339⟩ := row_shape (v := v339) H339.sep (by repeat (first | exact Mh | apply Mt))
                      subst hvr339
                      refine hfinA H339.sep ?_
                      refine hgo 18 rfl (by kernel_rfl) ?_
                      refine st_append rfl z_slice30 z_notint30 rfl rfl (fun _ => (by repeat (first | exact Uh | apply Ut))) (fun w hs => Src.slice ((Pool.rds hLL (rd_row (by repeat (first | exact Mh | apply Mt))) (((Pool.pos (Pool.left size L) x : Nat) : Int).toNat) c3 hcap3) w hs) hsB (Pool.wc_cell _)) (by unfold maxLen at *; omega) (by omega) rfl rfl rfl H339 ?_
                      clear H339; intro v340 a340 wx340 hnil340 H340
                      obtain ⟨ArW, crW, hvrW, hRrW, hmrW⟩ := row_shape (v := v340) H340.sep (by repeat (first | exact Mh | apply Mt))
                      subst hvrW
                      refine hfinA H340.sep ?_
                      refine htake 19 rfl (by kernel_rfl) (y_nilCheck rfl rfl) rfl rfl rfl (fun _ h => (h.sub (by first | exact S0 | exact S1 | repeat (first | exact S1 | exact S0 | apply S2 | apply S3)))) H340 ?_
                      clear H340; intro a341 H341
                      refine htake 20 rfl (by kernel_rfl) (y_fieldB rfl z_field63_1 rfl (by first | (simp only [Nat.zero_add, Nat.add_zero, Nat.reduceAdd]; rfl) | rfl)) rfl rfl rfl (fun _ h => (h.sub (by first | exact S0 | exact S1 | repeat (first | exact S1 | exact S0 | apply S2 | apply S3)))) H341 ?_
                      clear H341; intro a342 H342
                      refine hgo 21 rfl (by kernel_rfl) ?_
                      refine st_store1N rfl z_size30 rfl rfl rfl (by repeat (first | exact Uh | apply Ut)) q_len_c2 q_set_c2_1 (by decide) rfl rfl H342 ?_
                      clear H342; intro wx343 H343
                      refine hfinA H343.sep ?_
                      refine hdone (by kernel_rfl) ?_
                      refine cut_n ?_
                      have hsx := H343.sep.sub (l' := [It.row _ 76 (.slice ArW _ crW) _ _, It.blk bp 63 _, It.blk b168 38 _, It.blk b2 38 _]) (by repeat (first | exact S1 | exact S0 | apply S2 | apply S3))
                      simp only [List.nil_append, Int.toNat_natCast, Nat.zero_add, Pool.ins_cells, Pool.ins_count] at hsx
                      exact ⟨_, H343.fr.weak ⟨rfl, rfl, rfl, trivial⟩, hsx⟩
                    · skip
                      refine st_buildSlice rfl Try.underlying30 z_size38 z_zero38 rfl rfl rfl (lay_agg (agg_cells _) wx.len rfl) rfl rfl rfl H336 ?_
                      clear H336; intro b344 a344 wx344 H344
                      refine hfinA H344.sep ?_
                      refine hgo 8 rfl (by kernel_rfl) ?_
                      replace H344 := H344.asRow (b := b230) (size := 76) (m := 0) (by repeat (first | exact Uh | apply Ut)) rfl (by unfold maxLen; omega)
                      refine st_append rfl z_slice30 z_notint30 rfl rfl (fun _ => (by repeat (first | exact Uh | apply Ut))) (fun w hs => Src.slice ((Pool.rdp hLL (rd_row (by repeat (first | exact Mh | apply Mt))) (((Pool.pos (Pool.left size L) x : Nat) : Int).toNat)) w hs) hsA (Pool.wc_cell _)) (by unfold maxLen at *; omega) (by omega) rfl rfl rfl H344 ?_
                      clear H344; intro v345 a345 wx345 hnil345 H345
                      obtain ⟨Ar345, cr345, hvr345, hRr345, hmr345⟩ := row_shape (v := v345) H345.sep (by repeat (first | exact Mh | apply Mt))
                      subst hvr345
                      refine hfinA H345.sep ?_
                      refine hgo 11 rfl (by kernel_rfl) ?_
                      refine st_append rfl z_slice30 z_notint30 rfl rfl (fun _ => (by repeat (first | exact Uh | apply Ut))) (fun w hs => Src.slice ((rd_blkA (by repeat (first | exact Mh | apply Mt))) w hs) wx.len (Pool.wait_cell _)) (by unfold maxLen at *; omega) (by omega) rfl rfl rfl H345 ?_
                      clear H345; intro v346 a346 wx346 hnil346 H346
                      obtain ⟨Ar346, cr346, hvr346, hRr346, hmr346⟩ := row_shape (v := v346) H346.sep (by repeat (first | exact Mh | apply Mt))
                      subst hvr346
                      refine hfinA H346.sep ?_
                      refine hgo 18 rfl (by kernel_rfl) ?_
                      refine st_append rfl z_slice30 z_notint30 rfl rfl (fun _ => (by repeat (first | exact Uh | apply Ut))) (fun w hs => Src.slice ((Pool.rds hLL (rd_row (by repeat (first | exact Mh | apply Mt))) (((Pool.pos (Pool.left size L) x : Nat) : Int).toNat) c3 hcap3) w hs) hsB (Pool.wc_cell _)) (by unfold maxLen at *; omega) (by omega) rfl rfl rfl H346 ?_
                      clear H346; intro v347 a347 wx347 hnil347 H347
                      obtain ⟨ArW, crW, hvrW, hRrW, hmrW⟩ := row_shape (v := v347) H347.sep (by repeat (first | exact Mh | apply Mt))
                      subst hvrW
                      refine hfinA H347.sep ?_
                      refine htake 19 rfl (by kernel_rfl) (y_nilCheck rfl rfl) rfl rfl rfl (fun _ h => (h.sub (by first | exact S0 | exact S1 | repeat (first | exact S1 | exact S0 | apply S2 | apply S3)))) H347 ?_
                      clear H347; intro a348 H348
                      refine htake 20 rfl (by kernel_rfl) (y_fieldB rfl z_field63_1 rfl (by first | (simp only [Nat.zero_add, Nat.add_zero, Nat.reduceAdd]; rfl) | rfl)) rfl rfl rfl (fun _ h => (h.sub (by first | exact S0 | exact S1 | repeat (first | exact S1 | exact S0 | apply S2 | apply S3)))) H348 ?_
                      clear H348; intro a349 H349
                      refine hgo 21 rfl (by kernel_rfl) ?_
                      refine st_store1N rfl z_size30 rfl rfl rfl (by repeat (first | exact Uh | apply Ut)) q_len_c2 q_set_c2_1 (by decide) rfl rfl H349 ?_
                      clear H349; intro wx350 H350
                      refine hfinA H350.sep ?_
                      refine hdone (by kernel_rfl) ?_
                      refine cut_n ?_
                      have hsx := H350.sep.sub (l' := [It.row _ 76 (.slice ArW _ crW) _ _, It.blk bp 63 _, It.blk b168 38 _, It.blk b2 38 _]) (by repeat (first | exact S1 | exact S0 | apply S2 | apply S3))
                      simp only [List.nil_append, Int.toNat_natCast, Nat.zero_add, Pool.ins_cells, Pool.ins_count] at hsx
                      exact ⟨_, H350.fr.weak ⟨rfl, rfl, rfl, trivial⟩, hsx⟩
                  · skip
                    refine st_buildSlice rfl Try.underlying30 z_size38 z_zero38 rfl rfl rfl (lay_agg (agg_cells _) wx.len rfl) rfl rfl rfl H334 ?_
                    clear H334; intro b351 a351 wx351 H351
                    refine hfinA H351.sep ?_
                    refine hgo 5 rfl (by kernel_rfl) ?_
                    refine plain (y_loadB rfl z_agg30 rfl (by repeat (first | exact Mh | apply Mt)) q_ix_c2_1) rfl rfl rfl H351 ?_
                    clear H351; intro a352 H352
                    refine hfinA H352.sep ?_
                    refine htake 7 rfl (by kernel_rfl) (y_slS_hi rfl Try.underlying30 z_size38 rfl rfl (by omega) (by omega) (by omega)) rfl rfl rfl (fun _ h => (h.sub (by first | exact S0 | exact S1 | repeat (first | exact S1 | exact S0 | apply S2 | apply S3)))) H352 ?_
                    clear H352; intro a353 H353
                    refine hgo 8 rfl (by kernel_rfl) ?_
                    replace H353 := H353.asRow (b := b230) (size := 76) (m := 0) (by repeat (first | exact Uh | apply Ut)) rfl (by unfold maxLen; omega)
                    refine st_append rfl z_slice30 z_notint30 rfl rfl (fun _ => (by repeat (first | exact Uh | apply Ut))) (fun w hs => Src.slice ((Pool.rdp hLL (rd_row (by repeat (first | exact Mh | apply Mt))) (((Pool.pos (Pool.left size L) x : Nat) : Int).toNat)) w hs) hsA (Pool.wc_cell _)) (by unfold maxLen at *; omega) (by omega) rfl rfl rfl H353 ?_
                    clear H353; intro v354 a354 wx354 hnil354 H354
                    obtain ⟨Ar354, cr354, hvr354, hRr354, hmr354⟩ := row_shape (v := v354) H354.sep (by repeat (first | exact Mh | apply Mt))
                    subst hvr354
                    refine hfinA H354.sep ?_
                    refine hgo 11 rfl (by kernel_rfl) ?_
                    refine st_append rfl z_slice30 z_notint30 rfl rfl (fun _ => (by repeat (first | exact Uh | apply Ut))) (fun w hs => Src.slice ((rd_blkA (by repeat (first | exact Mh | apply Mt))) w hs) wx.len (Pool.wait_cell _)) (by unfold maxLen at *; omega) (by omega) rfl rfl rfl H354 ?_
                    clear H354; intro v355 a355 wx355 hnil355 H355
                    obtain ⟨Ar355, cr355, hvr355, hRr355, hmr355⟩ := row_shape (v := v355) H355.sep (by repeat (first | exact Mh | apply Mt))
                    subst hvr355
                    refine hfinA H355.sep ?_
                    refine hgo 18 rfl (by kernel_rfl) ?_
                    refine st_append rfl z_slice30 z_notint30 rfl rfl (fun _ => (by repeat (first | exact Uh | apply Ut))) (fun w hs => Src.slice ((Pool.rds hLL (rd_row (by repeat (first | exact Mh | apply Mt))) (((Pool.pos (Pool.left size L) x : Nat) : Int).toNat) c3 hcap3) w hs) hsB (Pool.wc_cell _)) (by unfold maxLen at *; omega) (by omega) rfl rfl rfl H355 ?_
                    clear H355; intro v356 a356 wx356 hnil356 H356
                    obtain ⟨ArW, crW, hvrW, hRrW, hmrW⟩ := row_shape (v := v356) H356.sep (by repeat (first | exact Mh | apply Mt))
                    subst hvrW
                    refine hfinA H356.sep ?_
                    refine htake 19 rfl (by kernel_rfl) (y_nilCheck rfl rfl) rfl rfl rfl (fun _ h => (h.sub (by first | exact S0 | exact S1 | repeat (first | exact S1 | exact S0 | apply S2 | apply S3)))) H356 ?_
                    clear H356; intro a357 H357
                    refine htake 20 rfl (by kernel_rfl) (y_fieldB rfl z_field63_1 rfl (by first | (simp only [Nat.zero_add, Nat.add_zero, Nat.reduceAdd]; rfl) | rfl)) rfl rfl rfl (fun _ h => (h.sub (by first | exact S0 | exact S1 | repeat (first | exact S1 | exact S0 | apply S2 | apply S3)))) H357 ?_
                    clear H357; intro a358 H358
                    refine hgo 21 rfl (by kernel_rfl) ?_
                    refine st_store1N rfl z_size30 rfl rfl rfl (by repeat (first | exact Uh | apply Ut)) q_len_c2 q_set_c2_1 (by decide) rfl rfl H358 ?_
                    clear H358; intro wx359 H359
                    refine hfinA H359.sep ?_
                    refine hdone (by kernel_rfl) ?_
                    refine cut_n ?_
                    have hsx := H359.sep.sub (l' := [It.row _ 76 (.slice ArW _ crW) _ _, It.blk bp 63 _, It.blk b168 38 _, It.blk b2 38 _]) (by repeat (first | exact S1 | exact S0 | apply S2 | apply S3))
                    simp only [List.nil_append, Int.toNat_natCast, Nat.zero_add, Pool.ins_cells, Pool.ins_count] at hsx
                    exact ⟨_, H359.fr.weak ⟨rfl, rfl, rfl, trivial⟩, hsx⟩
              · skip
                refine plain (y_loadB rfl z_agg30 rfl (by repeat (first | exact Mh | apply Mt)) q_ix_c2_1) rfl rfl rfl H229 ?_
                clear H229; intro a360 H360
                refine hfinA H360.sep ?_
                refine htake 7 rfl (by kernel_rfl) (y_slS_hi rfl Try.underlying30 z_size38 rfl rfl (by omega) (by omega) (by omega)) rfl rfl rfl (fun _ h => (h.sub (by first | exact S0 | exact S1 | repeat (first | exact S1 | exact S0 | apply S2 | apply S3)))) H360 ?_
                clear H360; intro a361 H361
                refine hgo3 1 10 15 rfl rfl rfl (by kernel_rfl) ?_ ?_ ?_
                · skip
                  refine st_buildSlice rfl Try.underlying30 z_size38 z_zero38 rfl rfl rfl (show _ = some ([] : List Value) from rfl) rfl rfl rfl H361 ?_
                  clear H361; intro b362 a362 wx362 H362
                  refine hfinA H362.sep ?_
                  refine hgo3 8 10 15 rfl rfl rfl (by kernel_rfl) ?_ ?_ ?_
                  · skip
                    replace H362 := H362.asRow (b := b362) (size := 76) (m := 0) (by repeat (first | exact Uh | apply Ut)) rfl (by unfold maxLen; omega)
                    refine st_append rfl z_slice30 z_notint30 rfl rfl (fun _ => (by repeat (first | exact Uh | apply Ut))) (fun w hs => Src.slice ((Pool.rdp hLL (rd_row (by repeat (first | exact Mh | apply Mt))) (((Pool.pos (Pool.left size L) x : Nat) : Int).toNat)) w hs) hsA (Pool.wc_cell _)) (by unfold maxLen at *; omega) (by omega) rfl rfl rfl H362 ?_
                    clear H362; intro v363 a363 wx363 hnil363 H363
                    obtain ⟨Ar363, cr363, hvr363, hRr363, hmr363⟩ := row_shape (v := v363) H363.sep (by repeat (first | exact Mh | apply Mt))
                    subst hvr363
                    refine hfinA H363.sep ?_
                    refine hgo2 10 15 rfl rfl (by kernel_rfl) ?_ ?_
                    · skip
                      refine st_buildSlice rfl Try.underlying30 z_size38 z_zero38 rfl rfl rfl (lay_agg (agg_cells _) wx.len rfl) rfl rfl rfl H363 ?_
                      clear H363; intro b364 a364 wx364 H364
                      refine hfinA H364.sep ?_
                      refine hgo2 11 15 rfl rfl (by kernel_rfl) ?_ ?_
                      · skip
                        refine st_append rfl z_slice30 z_notint30 rfl rfl (fun _ => (by repeat (first | exact Uh | apply Ut))) (fun w hs => Src.slice ((rd_blkA (by repeat (first | exact Mh | apply Mt))) w hs) wx.len (Pool.wait_cell _)) (by unfold maxLen at *; omega) (by omega) rfl rfl rfl H364 ?_
                        clear H364; intro v365 a365 wx365 hnil365 H365
                        obtain ⟨Ar365, cr365, hvr365, hRr365, hmr365⟩ := row_shape (v := v365) H365.sep (by repeat (first | exact Mh | apply Mt))
                        subst hvr365
                        refine hfinA H365.sep ?_
                        refine hgo 15 rfl (by kernel_rfl) ?_
                        refine plain (y_loadB rfl z_agg30 rfl (by repeat (first | exact Mh | apply Mt)) q_ix_c2_1) rfl rfl rfl H365 ?_
                        clear H365; intro a366 H366
                        refine hfinA H366.sep ?_
                        refine htake 17 rfl (by kernel_rfl) (y_slS_lo rfl Try.underlying30 z_size38 rfl rfl (by omega) (by omega)) rfl rfl rfl (fun _ h => (h.sub (by first | exact S0 | exact S1 | repeat (first | exact S1 | exact S0 | apply S2 | apply S3)))) H366 ?_
                        clear H366; intro a367 H367
                        refine hgo 18 rfl (by kernel_rfl) ?_
                        refine st_append rfl z_slice30 z_notint30 rfl rfl (fun _ => (by repeat (first | exact Uh | apply Ut))) (fun w hs => Src.slice ((Pool.rds hLL (rd_row (by repeat (first | exact Mh | apply Mt))) (((Pool.pos (Pool.left size L) x : Nat) : Int).toNat) c3 hcap3) w hs) hsB (Pool.wc_cell _)) (by unfold maxLen at *; omega) (by omega) rfl rfl rfl H367 ?_
                        clear H367; intro v368 a368 wx368 hnil368 H368
                        obtain ⟨ArW, crW, hvrW, hRrW, hmrW⟩ := row_shape (v := v368) H368.sep (by repeat (first | exact Mh | apply Mt))
                        subst hvrW
                        refine hfinA H368.sep ?_
                        refine htake 19 rfl (by kernel_rfl) (y_nilCheck rfl rfl) rfl rfl rfl (fun _ h => (h.sub (by first | exact S0 | exact S1 | repeat (first | exact S1 | exact S0 | apply S2 | apply S3)))) H368 ?_
                        clear H368; intro a369 H369
                        refine htake 20 rfl (by kernel_rfl) (y_fieldB rfl z_field63_1 rfl (by first | (simp only [Nat.zero_add, Nat.add_zero, Nat.reduceAdd]; rfl) | rfl)) rfl rfl rfl (fun _ h => (h.sub (by first | exact S0 | exact S1 | repeat (first | exact S1 | exact S0 | apply S2 | apply S3)))) H369 ?_
                        clear H369; intro a370 H370
                        refine hgo 21 rfl (by kernel_rfl) ?_
                        refine st_store1N rfl z_size30 rfl rfl rfl (by repeat (first | exact Uh | apply Ut)) q_len_c2 q_set_c2_1 (by decide) rfl rfl H370 ?_
                        clear H370; intro wx371 H371
                        refine hfinA H371.sep ?_
                        refine hdone (by kernel_rfl) ?_
                        refine cut_n ?_
                        have hsx := H371.sep.sub (l' := [It.row _ 76 (.slice ArW _ crW) _ _, It.blk bp 63 _, It.blk b168 38 _, It.blk b2 38 _]) (by repeat (first | exact S1 | exact S0 | apply S2 | apply S3))
                        simp only [List.nil_append, Int.toNat_natCast, Nat.zero_add, Pool.ins_cells, Pool.ins_count] at hsx
                        exact ⟨_, H371.fr.weak ⟨rfl, rfl, rfl, trivial⟩, hsx⟩
                      · skip
                        refine plain (y_loadB rfl z_agg30 rfl (by repeat (first | exact Mh | apply Mt)) q_ix_c2_1) rfl rfl rfl H364 ?_
                        clear H364; intro a372 H372
                        refine hfinA H372.sep ?_
                        refine htake 17 rfl (by kernel_rfl) (y_slS_lo rfl Try.underlying30 z_size38 rfl rfl (by omega) (by omega)) rfl rfl rfl (fun _ h => (h.sub (by first | exact S0 | exact S1 | repeat (first | exact S1 | exact S0 | apply S2 | apply S3)))) H372 ?_
                        clear H372; intro a373 H373
                        refine hgo 11 rfl (by kernel_rfl) ?_
                        refine st_append rfl z_slice30 z_notint30 rfl rfl (fun _ => (by repeat (first | exact Uh | apply Ut))) (fun w hs => Src.slice ((rd_blkA (by repeat (first | exact Mh | apply Mt))) w hs) wx.len (Pool.wait_cell _)) (by unfold maxLen at *; omega) (by omega) rfl rfl rfl H373 ?_
                        clear H373; intro v374 a374 wx374 hnil374 H374
                        obtain ⟨Ar374, cr374, hvr374, hRr374, hmr374⟩ := row_shape (v := v374) H374.sep (by repeat (first | exact Mh | apply Mt))
                        subst hvr374
                        refine hfinA H374.sep ?_
                        refine hgo 18 rfl (by kernel_rfl) ?_
                        refine st_append rfl z_slice30 z_notint30 rfl rfl (fun _ => (by repeat (first | exact Uh | apply Ut))) (fun w hs => Src.slice ((Pool.rds hLL (rd_row (by repeat (first | exact Mh | apply Mt))) (((Pool.pos (Pool.left size L) x : Nat) : Int).toNat) c3 hcap3) w hs) hsB (Pool.wc_cell _)) (by unfold maxLen at *; omega) (by omega) rfl rfl rfl H374 ?_
                        clear H374; intro v375 a375 wx375 hnil375 H375
                        obtain ⟨ArW, crW, hvrW, hRrW, hmrW⟩ := row_shape (v := v375) H375.sep (by repeat (first | exact Mh | apply Mt))
                        subst hvrW
                        refine hfinA H375.sep ?_
                        refine htake 19 rfl (by kernel_rfl) (y_nilCheck rfl rfl) rfl rfl rfl (fun _ h => (h.sub (by first | exact S0 | exact S1 | repeat (first | exact S1 | exact S0 | apply S2 | apply S3)))) H375 ?_
                        clear H375; intro a376 H376
                        refine htake 20 rfl (by kernel_rfl) (y_fieldB rfl z_field63_1 rfl (by first | (simp only [Nat.zero_add, Nat.add_zero, Nat.reduceAdd]; rfl) | rfl)) rfl rfl rfl (fun _ h => (h.sub (by first | exact S0 | exact S1 | repeat (first | exact S1 | exact S0 | apply S2 | apply S3)))) H376 ?_
                        clear H376; intro a377 H377
                        refine hgo 21 rfl (by kernel_rfl) ?_
                        refine st_store1N rfl z_size30 rfl rfl rfl (by repeat (first | exact Uh | apply Ut)) q_len_c2 q_set_c2_1 (by decide) rfl rfl H377 ?_
                        clear H377; intro wx378 H378
                        refine hfinA H378.sep ?_
                        refine hdone (by kernel_rfl) ?_
                        refine cut_n ?_
                        have hsx := H378.sep.sub (l' := [It.row _ 76 (.slice ArW _ crW) _ _, It.blk bp 63 _, It.blk b168 38 _, It.blk b2 38 _]) (by repeat (first | exact S1 | exact S0 | apply S2 | apply S3))
                        simp only [List.nil_append, Int.toNat_natCast, Nat.zero_add, Pool.ins_cells, Pool.ins_count] at hsx
                        exact ⟨_, H378.fr.weak ⟨rfl, rfl, rfl, trivial⟩, hsx⟩
                    · skip
                      refine plain (y_loadB rfl z_agg30 rfl (by repeat (first | exact Mh | apply Mt)) q_ix_c2_1) rfl rfl rfl H363 ?_
                      clear H363; intro a379 H379
                      refine hfinA H379.sep ?_
                      refine htake 17 rfl (by kernel_rfl) (y_slS_lo rfl Try.underlying30 z_size38 rfl rfl (by omega) (by omega)) rfl rfl rfl (fun _ h => (h.sub (by first | exact S0 | exact S1 | repeat (first | exact S1 | exact S0 | apply S2 | apply S3)))) H379 ?_
                      clear H379; intro a380 H380
                      refine hgo 10 rfl (by kernel_rfl) ?_
                      refine st_buildSlice rfl Try.underlying30 z_size38 z_zero38 rfl rfl rfl (lay_agg (agg_cells _) wx.len rfl) rfl rfl rfl H380 ?_
                      clear H380; intro b381 a381 wx381 H381
                      refine hfinA H381.sep ?_
                      refine hgo 11 rfl (by kernel_rfl) ?_
                      refine st_append rfl z_slice30 z_notint30 rfl rfl (fun _ => (by repeat (first | exact Uh | apply Ut))) (fun w hs => Src.slice ((rd_blkA (by repeat (first | exact Mh | apply Mt))) w hs) wx.len (Pool.wait_cell _)) (by unfold maxLen at *; omega) (by omega) rfl rfl rfl H381 ?_
                      clear H381; intro v382 a382 wx382 hnil382 H382
                      obtain ⟨Ar382, cr382, hvr382, hRr382, hmr382⟩ := row_shape (v := v382) H382.sep (by repeat (first | exact Mh | apply Mt))
                      subst hvr382
                      refine hfinA H382.sep ?_
                      refine hgo 18 rfl (by kernel_rfl) ?_
                      refine st_append rfl z_slice30 z_notint30 rfl rfl (fun _ => (by repeat (first | exact Uh | apply Ut))) (fun w hs => Src.slice ((Pool.rds hLL (rd_row (by repeat (first | exact Mh | apply Mt))) (((Pool.pos (Pool.left size L) x : Nat) : Int).toNat) c3 hcap3) w hs) hsB (Pool.wc_cell _)) (by unfold maxLen at *; omega) (by omega) rfl rfl rfl H382 ?_
                      clear H382; intro v383 a383 wx383 hnil383 H383
                      obtain ⟨ArW, crW, hvrW, hRrW, hmrW⟩ := row_shape (v := v383) H383.sep (by repeat (first | exact Mh | apply Mt))
                      subst hvrW
                      refine hfinA H383.sep ?_
                      refine htake 19 rfl (by kernel_rfl) (y_nilCheck rfl rfl) rfl rfl rfl (fun _ h => (h.sub (by first | exact S0 | exact S1 | repeat (first | exact S1 | exact S0 | apply S2 | apply S3)))) H383 ?_
                      clear H383; intro a384 H384
                      refine htake 20 rfl (by kernel_rfl) (y_fieldB rfl z_field63_1 rfl (by first | (simp only [Nat.zero_add, Nat.add_zero, Nat.reduceAdd]; rfl) | rfl)) rfl rfl rfl (fun _ h => (h.sub (by first | exact S0 | exact S1 | repeat (first | exact S1 | exact S0 | apply S2 | apply S3)))) H384 ?_
                      clear H384; intro a385 H385
                      refine hgo 21 rfl (by kernel_rfl) ?_
                      refine st_store1N rfl z_size30 rfl rfl rfl (by repeat (first | exact Uh | apply Ut)) q_len_c2 q_set_c2_1 (by decide) rfl rfl H385 ?_
                      clear H385; intro wx386 H386
                      refine hfinA H386.sep ?_
                      refine hdone (by kernel_rfl) ?_
                      refine cut_n ?_
                      have hsx := H386.sep.sub (l' := [It.row _ 76 (.slice ArW _ crW) _ _, It.blk bp 63 _, It.blk b168 38 _, It.blk b2 38 _]) (by repeat (first | exact S1 | exact S0 | apply S2 | apply S3))
                      simp only [List.nil_append, Int.toNat_natCast, Nat.zero_add, Pool.ins_cells, Pool.ins_count] at hsx
                      exact ⟨_, H386.fr.weak ⟨rfl, rfl, rfl, trivial⟩, hsx⟩
                  · skip
                    refine st_buildSlice rfl Try.underlying30 z_size38 z_zero38 rfl rfl rfl (lay_agg (agg_cells _) wx.len rfl) rfl rfl rfl H362 ?_
                    clear H362; intro b387 a387 wx387 H387
                    refine hfinA H387.sep ?_
                    refine hgo2 8 15 rfl rfl (by kernel_rfl) ?_ ?_
                    · skip
                      replace H387 := H387.asRow (b := b362) (size := 76) (m := 0) (by repeat (first | exact Uh | apply Ut)) rfl (by unfold maxLen; omega)
                      refine st_append rfl z_slice30 z_notint30 rfl rfl (fun _ => (by repeat (first | exact Uh | apply Ut))) (fun w hs => Src.slice ((Pool.rdp hLL (rd_row (by repeat (first | exact Mh | apply Mt))) (((Pool.pos (Pool.left size L) x : Nat) : Int).toNat)) w hs) hsA (Pool.wc_cell _)) (by unfold maxLen at *; omega) (by omega) rfl rfl rfl H387 ?_
                      clear H387; intro v388 a388 wx388 hnil388 H388
                      obtain ⟨Ar388, cr388, hvr388, hRr388, hmr388⟩ := row_shape (v := v388) H388.sep (by repeat (first | exact Mh | apply Mt))
                      subst hvr388
                      refine hfinA H388.sep ?_
                      refine hgo2 11 15 rfl rfl (by kernel_rfl) ?_ ?_
                      · skip
                        refine st_append rfl z_slice30 z_notint30 rfl rfl (fun _ => (by repeat (first | exact Uh | apply Ut))) (fun w hs => Src.slice ((rd_blkA (by repeat (first | exact Mh | apply Mt))) w hs) wx.len (Pool.wait_cell _)) (by unfold maxLen at *; omega) (by omega) rfl rfl rfl H388 ?_
                        clear H388; intro v389 a389 wx389 hnil389 H389
                        obtain ⟨Ar389, cr389, hvr389, hRr389, hmr389⟩ := row_shape (v := v389) H389.sep (by repeat (first | exact Mh | apply Mt))
                        subst hvr389
                        refine hfinA H389.sep ?_
                        refine hgo 15 rfl (by kernel_rfl) ?_
                        refine plain (y_loadB rfl z_agg30 rfl (by repeat (first | exact Mh | apply Mt)) q_ix_c2_1) rfl rfl rfl H389 ?_
                        clear H389; intro a390 H390
                        refine hfinA H390.sep ?_
                        refine htake 17 rfl (by kernel_rfl) (y_slS_lo rfl Try.underlying30 z_size38 rfl rfl (by omega) (by omega)) rfl rfl rfl (fun _ h => (h.sub (by first | exact S0 | exact S1 | repeat (first | exact S1 | exact S0 | apply S2 | apply S3)))) H390 ?_
                        clear H390; intro a391 H391
                        refine hgo 18 rfl (by kernel_rfl) ?_
                        refine st_append rfl z_slice30 z_notint30 rfl rfl (fun _ => (by repeat (first | exact Uh | apply Ut))) (fun w hs => Src.slice ((Pool.rds hLL (rd_row (by repeat (first | exact Mh | apply Mt))) (((Pool.pos (Pool.left size L) x : Nat) : Int).toNat) c3 hcap3) w hs) hsB (Pool.wc_cell _)) (by unfold maxLen at *; omega) (by omega) rfl rfl rfl H391 ?_
                        clear H391; intro v392 a392 wx392 hnil392 H392
                        obtain ⟨ArW, crW, hvrW, hRrW, hmrW⟩ := row_shape (v := v392) H392.sep (by repeat (first | exact Mh | apply Mt))
                        subst hvrW
                        refine hfinA H392.sep ?_
                        refine htake 19 rfl (by kernel_rfl) (y_nilCheck rfl rfl) rfl rfl rfl (fun _ h => (h.sub (by first | exact S0 | exact S1 | repeat (first | exact S1 | exact S0 | apply S2 | apply S3)))) H392 ?_
                        clear H392; intro a393 H393
                        refine htake 20 rfl (by kernel_rfl) (y_fieldB rfl z_field63_1 rfl (by first | (simp only [Nat.zero_add, Nat.add_zero, Nat.reduceAdd]; rfl) | rfl)) rfl rfl rfl (fun _ h => (h.sub (by first | exact S0 | exact S1 | repeat (first | exact S1 | exact S0 | apply S2 | apply S3)))) H393 ?_
                        clear H393; intro a394 H394
                        refine hgo 21 rfl (by kernel_rfl) ?_
                        refine st_store1N rfl z_size30 rfl rfl rfl (by repeat (first | exact Uh | apply Ut)) q_len_c2 q_set_c2_1 (by decide) rfl rfl H394 ?_
                        clear H394; intro wx395 H395
                        refine hfinA H395.sep ?_
                        refine hdone (by kernel_rfl) ?_
                        refine cut_n ?_
                        have hsx := H395.sep.sub (l' := [It.row _ 76 (.slice ArW _ crW) _ _, It.blk bp 63 _, It.blk b168 38 _, It.blk b2 38 _]) (by repeat (first | exact S1 | exact S0 | apply S2 | apply S3))
                        simp only [List.nil_append, Int.toNat_natCast, Nat.zero_add, Pool.ins_cells, Pool.ins_count] at hsx
                        exact ⟨_, H395.fr.weak ⟨rfl, rfl, rfl, trivial⟩, hsx⟩
                      · skip
                        refine plain (y_loadB rfl z_agg30 rfl (by repeat (first | exact Mh | apply Mt)) q_ix_c2_1) rfl rfl rfl H388 ?_
                        clear H388; intro a396 H396
                        refine hfinA H396.sep ?_
                        refine htake 17 rfl (by kernel_rfl) (y_slS_lo rfl Try.underlying30 z_size38 rfl rfl (by omega) (by omega)) rfl rfl rfl (fun _ h => (h.sub (by first | exact S0 | exact S1 | repeat (first | exact S1 | exact S0 | apply S2 | apply S3)))) H396 ?_
                        clear H396; intro a397 H397
                        refine hgo 11 rfl (by kernel_rfl) ?_
                        refine st_append rfl z_slice30 z_notint30 rfl rfl (fun _ => (by repeat (first | exact Uh | apply Ut))) (fun w hs => Src.slice ((rd_blkA (by repeat (first | exact Mh | apply Mt))) w hs) wx.len (Pool.wait_cell _)) (by unfold maxLen at *; omega) (by omega) rfl rfl rfl H397 ?_
                        clear H397; intro v398 a398 wx398 hnil398 H398
                        obtain ⟨Ar398, cr398, hvr398, hRr398, hmr398⟩ := row_shape (v := v398) H398.sep (by repeat (first | exact Mh | apply Mt))
                        subst hvr398
                        refine hfinA H398.sep ?_
                        refine hgo 18 rfl (by kernel_rfl) ?_
                        refine st_append rfl z_slice30 z_notint30 rfl rfl (fun _ => (by repeat (first | exact Uh | apply Ut))) (fun w hs => Src.slice ((Pool.rds hLL (rd_row (by repeat (first | exact Mh | apply Mt))) (((Pool.pos (Pool.left size L) x : Nat) : Int).toNat) c3 hcap3) w hs) hsB (Pool.wc_cell _)) (by unfold maxLen at *; omega) (by omega) rfl rfl rfl H398 ?_
                        clear H398; intro v399 a399 wx399 hnil399 H399
                        obtain ⟨ArW, crW, hvrW, hRrW, hmrW⟩ := row_shape (v := v399) H399.sep (by repeat (first | exact Mh | apply Mt))
                        subst hvrW
                        refine hfinA H399.sep ?_
                        refine htake 19 rfl (by kernel_rfl) (y_nilCheck rfl rfl) rfl rfl rfl (fun _ h => (h.sub (by first | exact S0 | exact S1 | repeat (first | exact S1 | exact S0 | apply S2 | apply S3)))) H399 ?_
                        clear H399; intro a400 H400
                        refine htake 20 rfl (by kernel_rfl) (y_fieldB rfl z_field63_1 rfl (by first | (simp only [Nat.zero_add, Nat.add_zero, Nat.reduceAdd]; rfl) | rfl)) rfl rfl rfl (fun _ h => (h.sub (by first | exact S0 | exact S1 | repeat (first | exact S1 | exact S0 | apply S2 | apply S3)))) H400 ?_
                        clear H400; intro a401 H401
                        refine hgo 21 rfl (by kernel_rfl) ?_
                        refine st_store1N rfl z_size30 rfl rfl rfl (by repeat (first | exact Uh | apply Ut)) q_len_c2 q_set_c2_1 (by decide) rfl rfl H401 ?_
                        clear H401; intro wx402 H402
                        refine hfinA H402.sep ?_
                        refine hdone (by kernel_rfl) ?_
                        refine cut_n ?_
                        have hsx := H402.sep.sub (l' := [It.row _ 76 (.slice ArW _ crW) _ _, It.blk bp 63 _, It.blk b168 38 _, It.blk b2 38 _]) (by repeat (first | exact S1 | exact S0 | apply S2 | apply S3))
                        simp only [List.nil_append, Int.toNat_natCast, Nat.zero_add, Pool.ins_cells, Pool.ins_count] at hsx
                        exact ⟨_, H402.fr.weak ⟨rfl, rfl, rfl, trivial⟩, hsx⟩
                    · skip
                      refine plain (y_loadB rfl z_agg30 rfl (by repeat (first | exact Mh | apply Mt)) q_ix_c2_1) rfl rfl rfl H387 ?_
                      clear H387; intro a403 H403
                      refine hfinA H403.sep ?_
                      refine htake 17 rfl (by kernel_rfl) (y_slS_lo rfl Try.underlying30 z_size38 rfl rfl (by omega) (by omega)) rfl rfl rfl (fun _ h => (h.sub (by first | exact S0 | exact S1 | repeat (first | exact S1 | exact S0 | apply S2 | apply S3)))) H403 ?_
                      clear H403; intro a404 H404
                      refine hgo 8 rfl (by kernel_rfl) ?_
                      replace H404 := H404.asRow (b := b362) (size := 76) (m := 0) (by repeat (first | exact Uh | apply Ut)) rfl (by unfold maxLen; omega)
                      refine st_append rfl z_slice30 z_notint30 rfl rfl (fun _ => (by repeat (first | exact Uh | apply Ut))) (fun w hs => Src.slice ((Pool.rdp hLL (rd_row (by repeat (first | exact Mh | apply Mt))) (((Pool.pos (Pool.left size L) x : Nat) : Int).toNat)) w hs) hsA (Pool.wc_cell _)) (by unfold maxLen at *; omega) (by omega) rfl rfl rfl H404 ?_
                      clear H404; intro v405 a405 wx405 hnil405 H405
                      obtain ⟨Ar405, cr405, hvr405, hRr405, hmr405⟩ := row_shape (v := v405) H405.sep (by repeat (first | exact Mh | apply Mt))
                      subst hvr405
                      refine hfinA H405.sep ?_
                      refine hgo 11 rfl (by kernel_rfl) ?_
                      refine st_append rfl z_slice30 z_notint30 rfl rfl (fun _ => (by repeat (first | exact Uh | apply Ut))) (fun w hs => Src.slice ((rd_blkA (by repeat (first | exact Mh | apply Mt))) w hs) wx.len (Pool.wait_cell _)) (by unfold maxLen at *; omega) (by omega) rfl rfl rfl H405 ?_
                      clear H405; intro v406 a406 wx406 hnil406 H406
                      obtain ⟨Ar406, cr406, hvr406, hRr406, hmr406⟩ := row_shape (v := v406) H406.sep (by repeat (first | exact Mh | apply Mt))
                      subst hvr406
                      refine hfinA H406.sep ?_
                      refine hgo 18 rfl (by kernel_rfl) ?_
                      refine st_append rfl z_slice30 z_notint30 rfl rfl (fun _ => (by repeat (first | exact Uh | apply Ut))) (fun w hs => Src.slice ((Pool.rds hLL (rd_row (by repeat (first | exact Mh | apply Mt))) (((Pool.pos (Pool.left size L) x : Nat) : Int).toNat) c3 hcap3) w hs) hsB (Pool.wc_cell _)) (by unfold maxLen at *; omega) (by omega) rfl rfl rfl H406 ?_
                      clear H406; intro v407 a407 wx407 hnil407 H407
                      obtain ⟨ArW, crW, hvrW, hRrW, hmrW⟩ := row_shape (v := v407) H407.sep (by repeat (first | exact Mh | apply Mt))
                      subst hvrW
                      refine hfinA H407.sep ?_
                      refine htake 19 rfl (by kernel_rfl) (y_nilCheck rfl rfl) rfl rfl rfl (fun _ h => (h.sub (by first | exact S0 | exact S1 | repeat (first | exact S1 | exact S0 | apply S2 | apply S3)))) H407 ?_
                      clear H407; intro a408 H408
                      refine htake 20 rfl (by kernel_rfl) (y_fieldB rfl z_field63_1 rfl (by first | (simp only [Nat.zero_add, Nat.add_zero, Nat.reduceAdd]; rfl) | rfl)) rfl rfl rfl (fun _ h => (h.sub (by first | exact S0 | exact S1 | repeat (first | exact S1 | exact S0 | apply S2 | apply S3)))) H408 ?_
                      clear H408; intro a409 H409
                      refine hgo 21 rfl (by kernel_rfl) ?_
                      refine st_store1N rfl z_size30 rfl rfl rfl (by repeat (first | exact Uh | apply Ut)) q_len_c2 q_set_c2_1 (by decide) rfl rfl H409 ?_
                      clear H409; intro wx410 H410
                      refine hfinA H410.sep ?_
                      refine hdone (by kernel_rfl) ?_
                      refine cut_n ?_
                      have hsx := H410.sep.sub (l' := [It.row _ 76 (.slice ArW _ crW) _ _, It.blk bp 63 _, It.blk b168 38 _, It.blk b2 38 _]) (by repeat (first | exact S1 | exact S0 | apply S2 | apply S3))
                      simp only [List.nil_append, Int.toNat_natCast, Nat.zero_add, Pool.ins_cells, Pool.ins_count] at hsx
                      exact ⟨_, H410.fr.weak ⟨rfl, rfl, rfl, trivial⟩, hsx⟩
                  · skip
                    refine plain (y_loadB rfl z_agg30 rfl (by repeat (first | exact Mh | apply Mt)) q_ix_c2_1) rfl rfl rfl H362 ?_
                    clear H362; intro a411 H411
                    refine hfinA H411.sep ?_
                    refine htake 17 rfl (by kernel_rfl) (y_slS_lo rfl Try.underlying30 z_size38 rfl rfl (by omega) (by omega)) rfl rfl rfl (fun _ h => (h.sub (by first | exact S0 | exact S1 | repeat (first | exact S1 | exact S0 | apply S2 | apply S3)))) H411 ?_
                    clear H411; intro a412 H412
                    refine hgo2 8 10 rfl rfl (by kernel_rfl) ?_ ?_
                    · skip
                      replace H412 := H412.asRow (b := b362) (size := 76) (m := 0) (by repeat (first | exact Uh | apply Ut)) rfl (by unfold maxLen; omega)
                      refine st_append rfl z_slice30 z_notint30 rfl rfl (fun _ => (by repeat (first | exact Uh | apply Ut))) (fun w hs => Src.slice ((Pool.rdp hLL (rd_row (by repeat (first | exact Mh | apply Mt))) (((Pool.pos (Pool.left size L) x : Nat) : Int).toNat)) w hs) hsA (Pool.wc_cell _)) (by unfold maxLen at *; omega) (by omega) rfl rfl rfl H412 ?_
                      clear H412; intro v413 a413 wx413 hnil413 H413
                      obtain ⟨Ar413, cr413, hvr413, hRr413, hmr413⟩ := row_shape (v := v413) H413.sep (by repeat (first | exact Mh | apply Mt))
                      subst hvr413
                      refine hfinA H413.sep ?_
                      refine hgo 10 rfl (by kernel_rfl) ?_
                      refine st_buildSlice rfl Try.underlying30 z_size38 z_zero38 rfl rfl rfl (lay_agg (agg_cells _) wx.len rfl) rfl rfl rfl H413 ?_
                      clear H413; intro b414 a414 wx414 H414
                      refine hfinA H414.sep ?_
                      refine hgo 11 rfl (by kernel_rfl) ?_
                      refine st_append rfl z_slice30 z_notint30 rfl rfl (fun _ => (by repeat (first | exact Uh | apply Ut))) (fun w hs => Src.slice ((rd_blkA (by repeat (first | exact Mh | apply Mt))) w hs) wx.len (Pool.wait_cell _)) (by unfold maxLen at *; omega) (by omega) rfl rfl rfl H414 ?_
                      clear H414; intro v415 a415 wx415 hnil415 H415
                      obtain ⟨Ar415, cr415, hvr415, hRr415, hmr415⟩ := row_shape (v := v415) H415.sep (by repeat (first | exact Mh | apply Mt))
                      subst hvr415
                      refine hfinA H415.sep ?_
                      refine hgo 18 rfl (by kernel_rfl) ?_
                      refine st_append rfl z_slice30 z_notint30 rfl rfl (fun _ => (by repeat (first | exact Uh | apply Ut))) (fun w hs => Src.slice ((Pool.rds hLL (rd_row (by repeat (first | exact Mh | apply Mt))) (((Pool.pos (Pool.left size L) x : Nat) : Int).toNat) c3 hcap3) w hs) hsB (Pool.wc_cell _)) (by unfold maxLen at *; omega) (by omega) rfl rfl rfl H415 ?_
                      clear H415; intro v416 a416 wx416 hnil416 H416
                      obtain ⟨ArW, crW, hvrW, hRrW, hmrW⟩ := row_shape (v := v416) H416.sep (by repeat (first | exact Mh | apply Mt))
                      subst hvrW
                      refine hfinA H416.sep ?_
                      refine htake 19 rfl (by kernel_rfl) (y_nilCheck rfl rfl) rfl rfl rfl (fun _ h => (h.sub (by first | exact S0 | exact S1 | repeat (first | exact S1 | exact S0 | apply S2 | apply S3)))) H416 ?_
                      clear H416; intro a417 H417
                      refine htake 20 rfl (by kernel_rfl) (y_fieldB rfl z_field63_1 rfl (by first | (simp only [Nat.zero_add, Nat.add_zero, Nat.reduceAdd]; rfl) | rfl)) rfl rfl rfl (fun _ h => (h.sub (by first | exact S0 | exact S1 | repeat (first | exact S1 | exact S0 | apply S2 | apply S3)))) H417 ?_
                      clear H417; intro a418 H418
                      refine hgo 21 rfl (by kernel_rfl) ?_
                      refine st_store1N rfl z_size30 rfl rfl rfl (by repeat (first | exact Uh | apply Ut)) q_len_c2 q_set_c2_1 (by decide) rfl rfl H418 ?_
                      clear H418; intro wx419 H419
                      refine hfinA H419.sep ?_
                      refine hdone (by kernel_rfl) ?_
                      refine cut_n ?_
                      have hsx := H419.sep.sub (l' := [It.row _ 76 (.slice ArW _ crW) _ _, It.blk bp 63 _, It.blk b168 38 _, It.blk b2 38 _]) (by repeat (first | exact S1 | exact S0 | apply S2 | apply S3))
                      simp only [List.nil_append, Int.toNat_natCast, Nat.zero_add, Pool.ins_cells, Pool.ins_count] at hsx
                      exact ⟨_, H419.fr.weak ⟨rfl, rfl, rfl, trivial⟩, hsx⟩
                    · skip
                      refine st_buildSlice rfl Try.underlying30 z_size38 z_zero38 rfl rfl rfl (lay_agg (agg_cells _) wx.len rfl) rfl rfl rfl H412 ?_
                      clear H412; intro b420 a420 wx420 H420
                      refine hfinA H420.sep ?_
                      refine hgo 8 rfl (by kernel_rfl) ?_
                      replace H420 := H420.asRow (b := b362) (size := 76) (m := 0) (by repeat (first | exact Uh | apply Ut)) rfl (by unfold maxLen; omega)
                      refine st_append rfl z_slice30 z_notint30 rfl rfl (fun _ => (by repeat (first | exact Uh | apply Ut))) (fun w hs => Src.slice ((Pool.rdp hLL (rd_row (by repeat (first | exact Mh | apply Mt))) (((Pool.pos (Pool.left size L) x : Nat) : Int).toNat)) w hs) hsA (Pool.wc_cell _)) (by unfold maxLen at *; omega) (by omega) rfl rfl rfl H420 ?_
                      clear H420; intro v421 a421 wx421 hnil421 H421
                      obtain ⟨Ar421, cr421, hvr421, hRr421, hmr421⟩ := row_shape (v := v421) H421.sep (by repeat (first | exact Mh | apply Mt))
                      subst hvr421
                      refine hfinA H421.sep ?_
                      refine hgo 11 rfl (by kernel_rfl) ?_
                      refine st_append rfl z_slice30 z_notint30 rfl rfl (fun _ => (by repeat (first | exact Uh | apply Ut))) (fun w hs => Src.slice ((rd_blkA (by repeat (first | exact Mh | apply Mt))) w hs) wx.len (Pool.wait_cell _)) (by unfold maxLen at *; omega) (by omega) rfl rfl rfl H421 ?_
                      clear H421; intro v422 a422 wx422 hnil422 H422
                      obtain ⟨Ar422, cr422, hvr422, hRr422, hmr422⟩ := row_shape (v := v422) H422.sep (by repeat (first | exact Mh | apply Mt))
                      subst hvr422
                      refine hfinA H422.sep ?_
                      refine hgo 18 rfl (by kernel_rfl) ?_
                      refine st_append rfl z_slice30 z_notint30 rfl rfl (fun _ => (by repeat (first | exact Uh | apply Ut))) (fun w hs => Src.slice ((Pool.rds hLL (rd_row (by repeat (first | exact Mh | apply Mt))) (((Pool.pos (Pool.left size L) x : Nat) : Int).toNat) c3 hcap3) w hs) hsB (Pool.wc_cell _)) (by unfold maxLen at *; omega) (by omega) rfl rfl rfl H422 ?_
                      clear H422; intro v423 a423 wx423 hnil423 H423
                      obtain ⟨ArW, crW, hvrW, hRrW, hmrW⟩ := row_shape (v := v423) H423.sep (by repeat (first | exact Mh | apply Mt))
                      subst hvrW
                      refine hfinA H423.sep ?_
                      refine htake 19 rfl (by kernel_rfl) (y_nilCheck rfl rfl) rfl rfl rfl (fun _ h => (h.sub (by first | exact S0 | exact S1 | repeat (first | exact S1 | exact S0 | apply S2 | apply S3)))) H423 ?_
                      clear H423; intro a424 H424
                      refine htake 20 rfl (by kernel_rfl) (y_fieldB rfl z_field63_1 rfl (by first | (simp only [Nat.zero_add, Nat.add_zero, Nat.reduceAdd]; rfl) | rfl)) rfl rfl rfl (fun _ h => (h.sub (by first | exact S0 | exact S1 | repeat (first | exact S1 | exact S0 | apply S2 | apply S3)))) H424 ?_
                      clear H424; intro a425 H425
                      refine hgo 21 rfl (by kernel_rfl) ?_
                      refine st_store1N rfl z_size30 rfl rfl rfl (by repeat (first | exact Uh | apply Ut)) q_len_c2 q_set_c2_1 (by decide) rfl rfl H425 ?_
                      clear H425; intro wx426 H426
                      refine hfinA H426.sep ?_
                      refine hdone (by kernel_rfl) ?_
                      refine cut_n ?_
                      have hsx := H426.sep.sub (l' := [It.row _ 76 (.slice ArW _ crW) _ _, It.blk bp 63 _, It.blk b168 38 _, It.blk b2 38 _]) (by repeat (first | exact S1 | exact S0 | apply S2 | apply S3))
                      simp only [List.nil_append, Int.toNat_natCast, Nat.zero_add, Pool.ins_cells, Pool.ins_count] at hsx
                      exact ⟨_, H426.fr.weak ⟨rfl, rfl, rfl, trivial⟩, hsx⟩
                · skip
                  refine st_buildSlice rfl Try.underlying30 z_size38 z_zero38 rfl rfl rfl (lay_agg (agg_cells _) wx.len rfl) rfl rfl rfl H361 ?_
                  clear H361; intro b427 a427 wx427 H427
                  refine hfinA H427.sep ?_
                  refine hgo2 1 15 rfl rfl (by kernel_rfl) ?_ ?_
                  · skip
                    refine st_buildSlice rfl Try.underlying30 z_size38 z_zero38 rfl rfl rfl (show _ = some ([] : List Value) from rfl) rfl rfl rfl H427 ?_
                    clear H427; intro b428 a428 wx428 H428
                    refine hfinA H428.sep ?_
                    refine hgo2 8 15 rfl rfl (by kernel_rfl) ?_ ?_
                    · skip
                      replace H428 := H428.asRow (b := b428) (size := 76) (m := 0) (by repeat (first | exact Uh | apply Ut)) rfl (by unfold maxLen; omega)
                      refine st_append rfl z_slice30 z_notint30 rfl rfl (fun _ => (by repeat (first | exact Uh | apply Ut))) (fun w hs => Src.slice ((Pool.rdp hLL (rd_row (by repeat (first | exact Mh | apply Mt))) (((Pool.pos (Pool.left size L) x : Nat) : Int).toNat)) w hs) hsA (Pool.wc_cell _)) (by unfold maxLen at *; omega) (by omega) rfl rfl rfl H428 ?_
                      clear H428; intro v429 a429 wx429 hnil429 H429
                      obtain ⟨Ar429, cr429, hvr429, hRr429, hmr429⟩ := row_shape (v := v429) H429.sep (by repeat (first | exact Mh | apply Mt))
                      subst hvr429
                      refine hfinA H429.sep ?_
                      refine hgo2 11 15 rfl rfl (by kernel_rfl) ?_ ?_
                      · skip
                        refine st_append rfl z_slice30 z_notint30 rfl rfl (fun _ => (by repeat (first | exact Uh | apply Ut))) (fun w hs => Src.slice ((rd_blkA (by repeat (first | exact Mh | apply Mt))) w hs) wx.len (Pool.wait_cell _)) (by unfold maxLen at *; omega) (by omega) rfl rfl rfl H429 ?_
                        clear H429; intro v430 a430 wx430 hnil430 H430
                        obtain ⟨Ar430, cr430, hvr430, hRr430, hmr430⟩ := row_shape (v := v430) H430.sep (by repeat (first | exact Mh | apply Mt))
                        subst hvr430
                        refine hfinA H430.sep ?_
                        refine hgo 15 rfl (by kernel_rfl) ?_
                        refine plain (y_loadB rfl z_agg30 rfl (by repeat (first | exact Mh | apply Mt)) q_ix_c2_1) rfl rfl rfl H430 ?_
                        clear H430; intro a431 H431
                        refine hfinA H431.sep ?_
                        refine htake 17 rfl (by kernel_rfl) (y_slS_lo rfl Try.underlying30 z_size38 rfl rfl (by omega) (by omega)) rfl rfl rfl (fun _ h => (h.sub (by first | exact S0 | exact S1 | repeat (first | exact S1 | exact S0 | apply S2 | apply S3)))) H431 ?_
                        clear H431; intro a432 H432
                        refine hgo 18 rfl (by kernel_rfl) ?_
                        refine st_append rfl z_slice30 z_notint30 rfl rfl (fun _ => (by repeat (first | exact Uh | apply Ut))) (fun w hs => Src.slice ((Pool.rds hLL (rd_row (by repeat (first | exact Mh | apply Mt))) (((Pool.pos (Pool.left size L) x : Nat) : Int).toNat) c3 hcap3) w hs) hsB (Pool.wc_cell _)) (by unfold maxLen at *; omega) (by omega) rfl rfl rfl H432 ?_
                        clear H432; intro v433 a433 wx433 hnil433 H433
                        obtain ⟨ArW, crW, hvrW, hRrW, hmrW⟩ := row_shape (v := v433) H433.sep (by repeat (first | exact Mh | apply Mt))
                        subst hvrW
                        refine hfinA H433.sep ?_
                        refine htake 19 rfl (by kernel_rfl) (y_nilCheck rfl rfl) rfl rfl rfl (fun _ h => (h.sub (by first | exact S0 | exact S1 | repeat (first | exact S1 | exact S0 | apply S2 | apply S3)))) H433 ?_
                        clear H433; intro a434 H434
                        refine htake 20 rfl (by kernel_rfl) (y_fieldB rfl z_field63_1 rfl (by first | (simp only [Nat.zero_add, Nat.add_zero, Nat.reduceAdd]; rfl) | rfl)) rfl rfl rfl (fun _ h => (h.sub (by first | exact S0 | exact S1 | repeat (first | exact S1 | exact S0 | apply S2 | apply S3)))) H434 ?_
                        clear H434; intro a435 H435
                        refine hgo 21 rfl (by kernel_rfl) ?_
                        refine st_store1N rfl z_size30 rfl rfl rfl (by repeat (first | exact Uh | apply Ut)) q_len_c2 q_set_c2_1 (by decide) rfl rfl H435 ?_
                        clear H435; intro wx436 H436
                        refine hfinA H436.sep ?_
                        refine hdone (by kernel_rfl) ?_
                        refine cut_n ?_
                        have hsx := H436.sep.sub (l' := [It.row _ 76 (.slice ArW _ crW) _ _, It.blk bp 63 _, It.blk b168 38 _, It.blk b2 38 _]) (by repeat (first | exact S1 | exact S0 | apply S2 | apply S3))
                        simp only [List.nil_append, Int.toNat_natCast, Nat.zero_add, Pool.ins_cells, Pool.ins_count] at hsx
                        exact ⟨_, H436.fr.weak ⟨rfl, rfl, rfl, trivial⟩, hsx⟩
                      · skip
                        refine plain (y_loadB rfl z_agg30 rfl (by repeat (first | exact Mh | apply Mt)) q_ix_c2_1) rfl rfl rfl H429 ?_
                        clear H429; intro a437 H437
                        refine hfinA H437.sep ?_
                        refine htake 17 rfl (by kernel_rfl) (y_slS_lo rfl Try.underlying30 z_size38 rfl rfl (by omega) (by omega)) rfl rfl rfl (fun _ h => (h.sub (by first | exact S0 | exact S1 | repeat (first | exact S1 | exact S0 | apply S2 | apply S3)))) H437 ?_
                        clear H437; intro a438 H438
                        refine hgo 11 rfl (by kernel_rfl) ?_
                        refine st_append rfl z_slice30 z_notint30 rfl rfl (fun _ => (by repeat (first | exact Uh | apply Ut))) (fun w hs => Src.slice ((rd_blkA (by repeat (first | exact Mh | apply Mt))) w hs) wx.len (Pool.wait_cell _)) (by unfold maxLen at *; omega) (by omega) rfl rfl rfl H438 ?_
                        clear H438; intro v439 a439 wx439 hnil439 H439
                        obtain ⟨Ar439, cr439, hvr439, hRr439, hmr439⟩ := row_shape (v := v439) H439.sep (by repeat (first | exact Mh | apply Mt))
                        subst hvr439
                        refine hfinA H439.sep ?_
                        refine hgo 18 rfl (by kernel_rfl) ?_
                        refine st_append rfl z_slice30 z_notint30 rfl rfl (fun _ => (by repeat (first | exact Uh | apply Ut))) (fun w hs => Src.slice ((Pool.rds hLL (rd_row (by repeat (first | exact Mh | apply Mt))) (((Pool.pos (Pool.left size L) x : Nat) : Int).toNat) c3 hcap3) w hs) hsB (Pool.wc_cell _)) (by unfold maxLen at *; omega) (by omega) rfl rfl rfl H439 ?_
                        clear H439; intro v440 a440 wx440 hnil440 H440
                        obtain ⟨ArW, crW, hvrW, hRrW, hmrW⟩ := row_shape (v := v440) H440.sep (by repeat (first | exact Mh | apply Mt))
                        subst hvrW
                        refine hfinA H440.sep ?_
                        refine htake 19 rfl (by kernel_rfl) (y_nilCheck rfl rfl) rfl rfl rfl (fun _ h => (h.sub (by first | exact S0 | exact S1 | repeat (first | exact S1 | exact S0 | apply S2 | apply S3)))) H440 ?_
                        clear H440; intro a441 H441
                        refine htake 20 rfl (by kernel_rfl) (y_fieldB rfl z_field63_1 rfl (by first | (simp only [Nat.zero_add, Nat.add_zero, Nat.reduceAdd]; rfl) | rfl)) rfl rfl rfl (fun _ h => (h.sub (by first | exact S0 | exact S1 | repeat (first | exact S1 | exact S0 | apply S2 | apply S3)))) H441 ?_
                        clear H441; intro a442 H442
                        refine hgo 21 rfl (by kernel_rfl) ?_
                        refine st_store1N rfl z_size30 rfl rfl rfl (by repeat (first | exact Uh | apply Ut)) q_len_c2 q_set_c2_1 (by decide) rfl rfl H442 ?_
                        clear H442; intro wx443 H443
                        refine hfinA H443.sep ?_
                        refine hdone (by kernel_rfl) ?_
                        refine cut_n ?_
                        have hsx := H443.sep.sub (l' := [It.row _ 76 (.slice ArW _ crW) _ _, It.blk bp 63 _, It.blk b168 38 _, It.blk b2 38 _]) (by repeat (first | exact S1 | exact S0 | apply S2 | apply S3))
                        simp only [List.nil_append, Int.toNat_natCast, Nat.zero_add, Pool.ins_cells, Pool.ins_count] at hsx
                        exact ⟨_, H443.fr.weak ⟨rfl, rfl, rfl, trivial⟩, hsx⟩
                    · skip
                      refine plain (y_loadB rfl z_agg30 rfl (by repeat (first | exact Mh | apply Mt)) q_ix_c2_1) rfl rfl rfl H428 ?_
                      clear H428; intro a444 H444
                      refine hfinA H444.sep ?_
                      refine htake 17 rfl (by kernel_rfl) (y_slS_lo rfl Try.underlying30 z_size38 rfl rfl (by omega) (by omega)) rfl rfl rfl (fun _ h => (h.sub (by first | exact S0 | exact S1 | repeat (first | exact S1 | exact S0 | apply S2 | apply S3)))) H444 ?_
                      clear H444; intro a445 H445
                      refine hgo 8 rfl (by kernel_rfl) ?_
                      replace H445 := H445.asRow (b := b428) (size := 76) (m := 0) (by repeat (first | exact Uh | apply Ut)) rfl (by unfold maxLen; omega)
                      refine st_append rfl z_slice30 z_notint30 rfl rfl (fun _ => (by repeat (first | exact Uh | apply Ut))) (fun w hs => Src.slice ((Pool.rdp hLL (rd_row (by repeat (first | exact Mh | apply Mt))) (((Pool.pos (Pool.left size L) x : Nat) : Int).toNat)) w hs) hsA (Pool.wc_cell _)) (by unfold maxLen at *; omega) (by omega) rfl rfl rfl H445 ?_
                      clear H445; intro v446 a446 wx446 hnil446 H446
                      obtain ⟨Ar446, cr446, hvr446, hRr446, hmr446⟩ := row_shape (v := v446) H446.sep (by repeat (first | exact Mh | apply Mt))
                      subst hvr446
                      refine hfinA H446.sep ?_
                      refine hgo 11 rfl (by kernel_rfl) ?_
                      refine st_append rfl z_slice30 z_notint30 rfl rfl (fun _ => (by repeat (first | exact Uh | apply Ut))) (fun w hs => Src.slice ((rd_blkA (by repeat (first | exact Mh | apply Mt))) w hs) wx.len (Pool.wait_cell _)) (by unfold maxLen at *; omega) (by omega) rfl rfl rfl H446 ?_
                      clear H446; intro v447 a447 wx447 hnil447 H447
                      obtain ⟨Ar447, cr447, hvr447, hRr447, hmr447⟩ := row_shape (v := v447) H447.sep (by repeat (first | exact Mh | apply Mt))
                      subst hvr447
                      refine hfinA H447.sep ?_
                      refine hgo 18 rfl (by kernel_rfl) ?_
                      refine st_append rfl z_slice30 z_notint30 rfl rfl (fun _ => (by repeat (first | exact Uh | apply Ut))) (fun w hs => Src.slice ((Pool.rds hLL (rd_row (by repeat (first | exact Mh | apply Mt))) (((Pool.pos (Pool.left size L) x : Nat) : Int).toNat) c3 hcap3) w hs) hsB (Pool.wc_cell _)) (by unfold maxLen at *; omega) (by omega) rfl rfl rfl H447 ?_
                      clear H447; intro v448 a448 wx448 hnil448 H448
                      obtain ⟨ArW, crW, hvrW, hRrW, hmrW⟩ := row_shape (v := v448) H448.sep (by repeat (first | exact Mh | apply Mt))
                      subst hvrW
                      refine hfinA H448.sep ?_
                      refine htake 19 rfl (by kernel_rfl) (y_nilCheck rfl rfl) rfl rfl rfl (fun _ h => (h.sub (by first | exact S0 | exact S1 | repeat (first | exact S1 | exact S0 | apply S2 | apply S3)))) H448 ?_
                      clear H448; intro a449 H449
                      refine htake 20 rfl (by kernel_rfl) (y_fieldB rfl z_field63_1 rfl (by first | (simp only [Nat.zero_add, Nat.add_zero, Nat.reduceAdd]; rfl) | rfl)) rfl rfl rfl (fun _ h => (h.sub (by first | exact S0 | exact S1 | repeat (first | exact S1 | exact S0 | apply S2 | apply S3)))) H449 ?_
                      clear H449; intro a450 H450
                      refine hgo 21 rfl (by kernel_rfl) ?_
                      refine st_store1N rfl z_size30 rfl rfl rfl (by repeat (first | exact Uh | apply Ut)) q_len_c2 q_set_c2_1 (by decide) rfl rfl H450 ?_
                      clear H450; intro wx451 H451
                      refine hfinA H451.sep ?_
                      refine hdone (by kernel_rfl) ?_
                      refine cut_n ?_
                      have hsx := H451.sep.sub (l' := [It.row _ 76 (.slice ArW _ crW) _ _, It.blk bp 63 _, It.blk b168 38 _, It.blk b2 38 _]) (by repeat (first | exact S1 | exact S0 | apply S2 | apply S3))
                      simp only [List.nil_append, Int.toNat_natCast, Nat.zero_add, Pool.ins_cells, Pool.ins_count] at hsx
                      exact ⟨_, H451.fr.weak ⟨rfl, rfl, rfl, trivial⟩, hsx⟩
                  · skip
                    refine plain (y_loadB rfl z_agg30 rfl (by repeat (first | exact Mh | apply Mt)) q_ix_c2_1) rfl rfl rfl H427 ?_
                    clear H427; intro a452 H452
                    refine hfinA H452.sep ?_
                    refine htake 17 rfl (by kernel_rfl) (y_slS_lo rfl Try.underlying30 z_size38 rfl rfl (by omega) (by omega)) rfl rfl rfl (fun _ h => (h.sub (by first | exact S0 | exact S1 | repeat (first | exact S1 | exact S0 | apply S2 | apply S3)))) H452 ?_
                    clear H452; intro a453 H453
                    refine hgo 1 rfl (by kernel_rfl) ?_
                    refine st_buildSlice rfl Try.underlying30 z_size38 z_zero38 rfl rfl rfl (show _ = some ([] : List Value) from rfl) rfl rfl rfl H453 ?_
                    clear H453; intro b454 a454 wx454 H454
                    refine hfinA H454.sep ?_
                    refine hgo 8 rfl (by kernel_rfl) ?_
                    replace H454 := H454.asRow (b := b454) (size := 76) (m := 0) (by repeat (first | exact Uh | apply Ut)) rfl (by unfold maxLen; omega)
                    refine st_append rfl z_slice30 z_notint30 rfl rfl (fun _ => (by repeat (first | exact Uh | apply Ut))) (fun w hs => Src.slice ((Pool.rdp hLL (rd_row (by repeat (first | exact Mh | apply Mt))) (((Pool.pos (Pool.left size L) x : Nat) : Int).toNat)) w hs) hsA (Pool.wc_cell _)) (by unfold maxLen at *; omega) (by omega) rfl rfl rfl H454 ?_
                    clear H454; intro v455 a455 wx455 hnil455 H455
                    obtain ⟨Ar455, cr455, hvr455, hRr455, hmr455⟩ := row_shape (v := v455) H455.sep (by repeat (first | exact Mh | apply Mt))
                    subst hvr455
                    refine hfinA H455.sep ?_
                    refine hgo 11 rfl (by kernel_rfl) ?_
                    refine st_append rfl z_slice30 z_notint30 rfl rfl (fun _ => (by repeat (first | exact Uh | apply Ut))) (fun w hs => Src.slice ((rd_blkA (by repeat (first | exact Mh | apply Mt))) w hs) wx.len (Pool.wait_cell _)) (by unfold maxLen at *; omega) (by omega) rfl rfl rfl H455 ?_
                    clear H455; intro v456 a456 wx456 hnil456 H456
                    obtain ⟨Ar456, cr456, hvr456, hRr456, hmr456⟩ := row_shape (v := v456) H456.sep (by repeat (first | exact Mh | apply Mt))
                    subst hvr456
                    refine hfinA H456.sep ?_
                    refine hgo 18 rfl (by kernel_rfl) ?_
                    refine st_append rfl z_slice30 z_notint30 rfl rfl (fun _ => (by repeat (first | exact Uh | apply Ut))) (fun w hs => Src.slice ((Pool.rds hLL (rd_row (by repeat (first | exact Mh | apply Mt))) (((Pool.pos (Pool.left size L) x : Nat) : Int).toNat) c3 hcap3) w hs) hsB (Pool.wc_cell _)) (by unfold maxLen at *; omega) (by omega) rfl rfl rfl H456 ?_
                    clear H456; intro v457 a457 wx457 hnil457 H457
                    obtain ⟨ArW, crW, hvrW, hRrW, hmrW⟩ := row_shape (v := v457) H457.sep (by repeat (first | exact Mh | apply Mt))
                    subst hvrW
                    refine hfinA H457.sep ?_
                    refine htake 19 rfl (by kernel_rfl) (y_nilCheck rfl rfl) rfl rfl rfl (fun _ h => (h.sub (by first | exact S0 | exact S1 | repeat (first | exact S1 | exact S0 | apply S2 | apply S3)))) H457 ?_
                    clear H457; intro a458 H458
                    refine htake 20 rfl (by kernel_rfl) (y_fieldB rfl z_field63_1 rfl (by first | (simp only [Nat.zero_add, Nat.add_zero, Nat.reduceAdd]; rfl) | rfl)) rfl rfl rfl (fun _ h => (h.sub (by first | exact S0 | exact S1 | repeat (first | exact S1 | exact S0 | apply S2 | apply S3)))) H458 ?_
                    clear H458; intro a459 H459
                    refine hgo 21 rfl (by kernel_rfl) ?_
                    refine st_store1N rfl z_size30 rfl rfl rfl (by repeat (first | exact Uh | apply Ut)) q_len_c2 q_set_c2_1 (by decide) rfl rfl H459 ?_
                    clear H459; intro wx460 H460
                    refine hfinA H460.sep ?_
                    refine hdone (by kernel_rfl) ?_
                    refine cut_n ?_
                    have hsx := H460.sep.sub (l' := [It.row _ 76 (.slice ArW _ crW) _ _, It.blk bp 63 _, It.blk b168 38 _, It.blk b2 38 _]) (by repeat (first | exact S1 | exact S0 | apply S2 | apply S3))
                    simp only [List.nil_append, Int.toNat_natCast, Nat.zero_add, Pool.ins_cells, Pool.ins_count] at hsx
                    exact ⟨_, H460.fr.weak ⟨rfl, rfl, rfl, trivial⟩, hsx⟩
                · skip
                  refine plain (y_loadB rfl z_agg30 rfl (by repeat (first | exact Mh | apply Mt)) q_ix_c2_1) rfl rfl rfl H361 ?_
                  clear H361; intro a461 H461
                  refine hfinA H461.sep ?_
                  refine htake 17 rfl (by kernel_rfl) (y_slS_lo rfl Try.underlying30 z_size38 rfl rfl (by omega) (by omega)) rfl rfl rfl (fun _ h => (h.sub (by first | exact S0 | exact S1 | repeat (first | exact S1 | exact S0 | apply S2 | apply S3)))) H461 ?_
                  clear H461; intro a462 H462
                  refine hgo2 1 10 rfl rfl (by kernel_rfl) ?_ ?_
                  · skip
                    refine st_buildSlice rfl Try.underlying30 z_size38 z_zero38 rfl rfl rfl (show _ = some ([] : List Value) from rfl) rfl rfl rfl H462 ?_
                    clear H462; intro b463 a463 wx463 H463
                    refine hfinA H463.sep ?_
                    refine hgo2 8 10 rfl rfl (by kernel_rfl) ?_ ?_
                    · skip
                      replace H463 := H463.asRow (b := b463) (size := 76) (m := 0) (by repeat (first | exact Uh | apply Ut)) rfl (by unfold maxLen; omega)
                      refine st_append rfl z_slice30 z_notint30 rfl rfl (fun _ => (by repeat (first | exact Uh | apply Ut))) (fun w hs => Src.slice ((Pool.rdp hLL (rd_row (by repeat (first | exact Mh | apply Mt))) (((Pool.pos (Pool.left size L) x : Nat) : Int).toNat)) w hs) hsA (Pool.wc_cell _)) (by unfold maxLen at *; omega) (by omega) rfl rfl rfl H463 ?_
                      clear H463; intro v464 a464 wx464 hnil464 H464
                      obtain ⟨Ar464, cr464, hvr464, hRr464, hmr464⟩ := row_shape (v := v464) H464.sep (by repeat (first | exact Mh | apply Mt))
                      subst hvr464
                      refine hfinA H464.sep ?_
                      refine hgo 10 rfl (by kernel_rfl) ?_
                      refine st_buildSlice rfl Try.underlying30 z_size38 z_zero38 rfl rfl rfl (lay_agg (agg_cells _) wx.len rfl) rfl rfl rfl H464 ?_
                      clear H464; intro b465 a465 wx465 H465
                      refine hfinA H465.sep ?_
                      refine hgo 11 rfl (by kernel_rfl) ?_
                      refine st_append rfl z_slice30 z_notint30 rfl rfl (fun _ => (by repeat (first | exact Uh | apply Ut))) (fun w hs => Src.slice ((rd_blkA (by repeat (first | exact Mh | apply Mt))) w hs) wx.len (Pool.wait_cell _)) (by unfold maxLen at *; omega) (by omega) rfl rfl rfl H465 ?_
                      clear H465; intro v466 a466 wx466 hnil466 H466
                      obtain ⟨Ar466, cr466, hvr466, hRr466, hmr466⟩ := row_shape (v := v466) H466.sep (by repeat (first | exact Mh | apply Mt))
                      subst hvr466
                      refine hfinA H466.sep ?_
                      refine hgo 18 rfl (by kernel_rfl) ?_
                      refine st_append rfl z_slice30 z_notint30 rfl rfl (fun _ => (by repeat (first | exact Uh | apply Ut))) (fun w hs => Src.slice ((Pool.rds hLL (rd_row (by repeat (first | exact Mh | apply Mt))) (((Pool.pos (Pool.left size L) x : Nat) : Int).toNat) c3 hcap3) w hs) hsB (Pool.wc_cell _)) (by unfold maxLen at *; omega) (by omega) rfl rfl rfl H466 ?_
                      clear H466; intro v467 a467 wx467 hnil467 H467
                      obtain ⟨ArW, crW, hvrW, hRrW, hmrW⟩ := row_shape (v := v467) H467.sep (by repeat (first | exact Mh | apply Mt))
                      subst hvrW
                      refine hfinA H467.sep ?_
                      refine htake 19 rfl (by kernel_rfl) (y_nilCheck rfl rfl) rfl rfl rfl (fun _ h => (h.sub (by first | exact S0 | exact S1 | repeat (first | exact S1 | exact S0 | apply S2 | apply S3)))) H467 ?_
                      clear H467; intro a468 H468
                      refine htake 20 rfl (by kernel_rfl) (y_fieldB rfl z_field63_1 rfl (by first | (simp only [Nat.zero_add, Nat.add_zero, Nat.reduceAdd]; rfl) | rfl)) rfl rfl rfl (fun _ h => (h.sub (by first | exact S0 | exact S1 | repeat (first | exact S1 | exact S0 | apply S2 | apply S3)))) H468 ?_
                      clear H468; intro a469 H469
                      refine hgo 21 rfl (by kernel_rfl) ?_
                      refine st_store1N rfl z_size30 rfl rfl rfl (by repeat (first | exact Uh | apply Ut)) q_len_c2 q_set_c2_1 (by decide) rfl rfl H469 ?_
                      clear H469; intro wx470 H470
                      refine hfinA H470.sep ?_
                      refine hdone (by kernel_rfl) ?_
                      refine cut_n ?_
                      have hsx := H470.sep.sub (l' := [It.row _ 76 (.slice ArW _ crW) _ _, It.blk bp 63 _, It.blk b168 38 _, It.blk b2 38 _]) (by repeat (first | exact S1 | exact S0 | apply S2 | apply S3))
                      simp only [List.nil_append, Int.toNat_natCast, Nat.zero_add, Pool.ins_cells, Pool.ins_count] at hsx
                      exact ⟨_, H470.fr.weak ⟨rfl, rfl, rfl, trivial⟩, hsx⟩
                    · skip
                      refine st_buildSlice rfl Try.underlying30 z_size38 z_zero38 rfl rfl rfl (lay_agg (agg_cells _) wx.len rfl) rfl rfl rfl H463 ?_
                      clear H463; intro b471 a471 wx471 H471
                      refine hfinA H471.sep ?_
                      refine hgo 8 rfl (by kernel_rfl) ?_
                      replace H471 := H471.asRow (b := b463) (size := 76) (m := 0) (by repeat (first | exact Uh | apply Ut)) rfl (by unfold maxLen; omega)
                      refine st_append rfl z_slice30 z_notint30 rfl rfl (fun _ => (by repeat (first | exact Uh | apply Ut))) (fun w hs => Src.slice ((Pool.rdp hLL (rd_row (by repeat (first | exact Mh | apply Mt))) (((Pool.pos (Pool.left size L) x : Nat) : Int).toNat)) w hs) hsA (Pool.wc_cell _)) (by unfold maxLen at *; omega) (by omega) rfl rfl rfl H471 ?_
                      clear H471; intro v472 a472 wx472 hnil472 H472
                      obtain ⟨Ar472, cr472, hvr472, hRr472, hmr472⟩ := row_shape (v := v472) H472.sep (by repeat (first | exact Mh | apply Mt))
                      subst hvr472
                      refine hfinA H472.sep ?_
                      refine hgo 11 rfl (by kernel_rfl) ?_
                      refine st_append rfl z_slice30 z_notint30 rfl rfl (fun _ => (by repeat (first | exact Uh | apply Ut))) (fun w hs => Src.slice ((rd_blkA (by repeat (first | exact Mh | apply Mt))) w hs) wx.len (Pool.wait_cell _)) (by unfold maxLen at *; omega) (by omega) rfl rfl rfl H472 ?_
                      clear H472; intro v473 a473 wx473 hnil473 H473
                      obtain ⟨Ar473, cr473, hvr473, hRr473, hmr473⟩ := row_shape (v := v473) H473.sep (by repeat (first | exact Mh | apply Mt))
                      subst hvr473
                      refine hfinA H473.sep ?_
                      refine hgo 18 rfl (by kernel_rfl) ?_
                      refine st_append rfl z_slice30 z_notint30 rfl rfl (fun _ => (by repeat (first | exact Uh | apply Ut))) (fun w hs => Src.slice ((Pool.rds hLL (rd_row (by repeat (first | exact Mh | apply Mt))) (((Pool.pos (Pool.left size L) x : Nat) : Int).toNat) c3 hcap3) w hs) hsB (Pool.wc_cell _)) (by unfold maxLen at *; omega) (by omega) rfl rfl rfl H473 ?_
                      clear H473; intro v474 a474 wx474 hnil474 H474
                      obtain ⟨ArW, crW, hvrW, hRrW, hmrW⟩ := row_shape (v := v474) H474.sep (by repeat (first | exact Mh | apply Mt))
                      subst hvrW
                      refine hfinA H474.sep ?_
                      refine htake 19 rfl (by kernel_rfl) (y_nilCheck rfl rfl) rfl rfl rfl (fun _ h => (h.sub (by first | exact S0 | exact S1 | repeat (first | exact S1 | exact S0 | apply S2 | apply S3)))) H474 ?_
                      clear H474; intro a475 H475
                      refine htake 20 rfl (by kernel_rfl) (y_fieldB rfl z_field63_1 rfl (by first | (simp only [Nat.zero_add, Nat.add_zero, Nat.reduceAdd]; rfl) | rfl)) rfl rfl rfl (fun _ h => (h.sub (by first | exact S0 | exact S1 | repeat (first | exact S1 | exact S0 | apply S2 | apply S3)))) H475 ?_
                      clear H475; intro a476 H476
                      refine hgo 21 rfl (by kernel_rfl) ?_
                      refine st_store1N rfl z_size30 rfl rfl rfl (by repeat (first | exact Uh | apply Ut)) q_len_c2 q_set_c2_1 (by decide) rfl rfl H476 ?_
                      clear H476; intro wx477 H477
                      refine hfinA H477.sep ?_
                      refine hdone (by kernel_rfl) ?_
                      refine cut_n ?_
                      have hsx := H477.sep.sub (l' := [It.row _ 76 (.slice ArW _ crW) _ _, It.blk bp 63 _, It.blk b168 38 _, It.blk b2 38 _]) (by repeat (first | exact S1 | exact S0 | apply S2 | apply S3))
                      simp only [List.nil_append, Int.toNat_natCast, Nat.zero_add, Pool.ins_cells, Pool.ins_count] at hsx
                      exact ⟨_, H477.fr.weak ⟨rfl, rfl, rfl, trivial⟩, hsx⟩
                  · skip
                    refine st_buildSlice rfl Try.underlying30 z_size38 z_zero38 rfl rfl rfl (lay_agg (agg_cells _) wx.len rfl) rfl rfl rfl H462 ?_
                    clear H462; intro b478 a478 wx478 H478
                    refine hfinA H478.sep ?_
                    refine hgo 1 rfl (by kernel_rfl) ?_
                    refine st_buildSlice rfl Try.underlying30 z_size38 z_zero38 rfl rfl rfl (show _ = some ([] : List Value) from rfl) rfl rfl rfl H478 ?_
                    clear H478; intro b479 a479 wx479 H479
                    refine hfinA H479.sep ?_
                    refine hgo 8 rfl (by kernel_rfl) ?_
                    replace H479 := H479.asRow (b := b479) (size := 76) (m := 0) (by repeat (first | exact Uh | apply Ut)) rfl (by unfold maxLen; omega)
                    refine st_append rfl z_slice30 z_notint30 rfl rfl (fun _ => (by repeat (first | exact Uh | apply Ut))) (fun w hs => Src.slice ((Pool.rdp hLL (rd_row (by repeat (first | exact Mh | apply Mt))) (((Pool.pos (Pool.left size L) x : Nat) : Int).toNat)) w hs) hsA (Pool.wc_cell _)) (by unfold maxLen at *; omega) (by omega) rfl rfl rfl H479 ?_
                    clear H479; intro v480 a480 wx480 hnil480 H480
                    obtain ⟨Ar480, cr480, hvr480, hRr480, hmr480⟩ := row_shape (v := v480) H480.sep (by repeat (first | exact Mh | apply Mt))
                    subst hvr480
                    refine hfinA H480.sep ?_
                    refine hgo 11 rfl (by kernel_rfl) ?_
                    refine st_append rfl z_slice30 z_notint30 rfl rfl (fun _ => (by repeat (first | exact Uh | apply Ut))) (fun w hs => Src.slice ((rd_blkA (by repeat (first | exact Mh | apply Mt))) w hs) wx.len (Pool.wait_cell _)) (by unfold maxLen at *; omega) (by omega) rfl rfl rfl H480 ?_
                    clear H480; intro v481 a481 wx481 hnil481 H481
                    obtain ⟨Ar481, cr481, hvr481, hRr481, hmr481⟩ := row_shape (v := v481) H481.sep (by repeat (first | exact Mh | apply Mt))
                    subst hvr481
                    refine hfinA H481.sep ?_
                    refine hgo 18 rfl (by kernel_rfl) ?_
                    refine st_append rfl z_slice30 z_notint30 rfl rfl (fun _ => (by repeat (first | exact Uh | apply Ut))) (fun w hs => Src.slice ((Pool.rds hLL (rd_row (by repeat (first | exact Mh | apply Mt))) (((Pool.pos (Pool.left size L) x : Nat) : Int).toNat) c3 hcap3) w hs) hsB (Pool.wc_cell _)) (by unfold maxLen at *; omega) (by omega) rfl rfl rfl H481 ?_
                    clear H481; intro v482 a482 wx482 hnil482 H482
                    obtain ⟨ArW, crW, hvrW, hRrW, hmrW⟩ := row_shape (v := v482) H482.sep (by repeat (first | exact Mh | apply Mt))
                    subst hvrW
                    refine hfinA H482.sep ?_
                    refine htake 19 rfl (by kernel_rfl) (y_nilCheck rfl rfl) rfl rfl rfl (fun _ h => (h.sub (by first | exact S0 | exact S1 | repeat (first | exact S1 | exact S0 | apply S2 | apply S3)))) H482 ?_
                    clear H482; intro a483 H483
                    refine htake 20 rfl (by kernel_rfl) (y_fieldB rfl z_field63_1 rfl (by first | (simp only [Nat.zero_add, Nat.add_zero, Nat.reduceAdd]; rfl) | rfl)) rfl rfl rfl (fun _ h => (h.sub (by first | exact S0 | exact S1 | repeat (first | exact S1 | exact S0 | apply S2 | apply S3)))) H483 ?_
                    clear H483; intro a484 H484
                    refine hgo 21 rfl (by kernel_rfl) ?_
                    refine st_store1N rfl z_size30 rfl rfl rfl (by repeat (first | exact Uh | apply Ut)) q_len_c2 q_set_c2_1 (by decide) rfl rfl H484 ?_
                    clear H484; intro wx485 H485
                    refine hfinA H485.sep ?_
                    refine hdone (by kernel_rfl) ?_
                    refine cut_n ?_
                    have hsx := H485.sep.sub (l' := [It.row _ 76 (.slice ArW _ crW) _ _, It.blk bp 63 _, It.blk b168 38 _, It.blk b2 38 _]) (by repeat (first | exact S1 | exact S0 | apply S2 | apply S3))
                    simp only [List.nil_append, Int.toNat_natCast, Nat.zero_add, Pool.ins_cells, Pool.ins_count] at hsx
                    exact ⟨_, H485.fr.weak ⟨rfl, rfl, rfl, trivial⟩, hsx⟩
              · skip
                refine st_buildSlice rfl Try.underlying30 z_size38 z_zero38 rfl rfl rfl (lay_agg (agg_cells _) wx.len rfl) rfl rfl rfl H229 ?_
                clear H229; intro b486 a486 wx486 H486
                refine hfinA H486.sep ?_
                refine hgo3 1 5 15 rfl rfl rfl (by kernel_rfl) ?_ ?_ ?_
                · skip
                  refine st_buildSlice rfl Try.underlying30 z_size38 z_zero38 rfl rfl rfl (show _ = some ([] : List Value) from rfl) rfl rfl rfl H486 ?_
                  clear H486; intro b487 a487 wx487 H487
                  refine hfinA H487.sep ?_
                  refine hgo2 5 15 rfl rfl (by kernel_rfl) ?_ ?_
                  · skip
                    refine plain (y_loadB rfl z_agg30 rfl (by repeat (first | exact Mh | apply Mt)) q_ix_c2_1) rfl rfl rfl H487 ?_
                    clear H487; intro a488 H488
                    refine hfinA H488.sep ?_
                    refine htake 7 rfl (by kernel_rfl) (y_slS_hi rfl Try.underlying30 z_size38 rfl rfl (by omega) (by omega) (by omega)) rfl rfl rfl (fun _ h => (h.sub (by first | exact S0 | exact S1 | repeat (first | exact S1 | exact S0 | apply S2 | apply S3)))) H488 ?_
                    clear H488; intro a489 H489
                    refine hgo2 8 15 rfl rfl (by kernel_rfl) ?_ ?_
                    · skip
                      replace H489 := H489.asRow (b := b487) (size := 76) (m := 0) (by repeat (first | exact Uh | apply Ut)) rfl (by unfold maxLen; omega)
                      refine st_append rfl z_slice30 z_notint30 rfl rfl (fun _ => (by repeat (first | exact Uh | apply Ut))) (fun w hs => Src.slice ((Pool.rdp hLL (rd_row (by repeat (first | exact Mh | apply Mt))) (((Pool.pos (Pool.left size L) x : Nat) : Int).toNat)) w hs) hsA (Pool.wc_cell _)) (by unfold maxLen at *; omega) (by omega) rfl rfl rfl H489 ?_
                      clear H489; intro v490 a490 wx490 hnil490 H490
                      obtain ⟨Ar490, cr490, hvr490, hRr490, hmr490⟩ := row_shape (v := v490) H490.sep (by repeat (first | exact Mh | apply Mt))
                      subst hvr490
                      refine hfinA H490.sep ?_
                      refine hgo2 11 15 rfl rfl (by kernel_rfl) ?_ ?_
                      · skip
                        refine st_append rfl z_slice30 z_notint30 rfl rfl (fun _ => (by repeat (first | exact Uh | apply Ut))) (fun w hs => Src.slice ((rd_blkA (by repeat (first | exact Mh | apply Mt))) w hs) wx.len (Pool.wait_cell _)) (by unfold maxLen at *; omega) (by omega) rfl rfl rfl H490 ?_
                        clear H490; intro v491 a491 wx491 hnil491 H491
                        obtain ⟨Ar491, cr491, hvr491, hRr491, hmr491⟩ := row_shape (v := v491) H491.sep (by repeat (first | exact Mh | apply Mt))
                        subst hvr491
                        refine hfinA H491.sep ?_
                        refine hgo 15 rfl (by kernel_rfl) ?_
                        refine plain (y_loadB rfl z_agg30 rfl (by repeat (first | exact Mh | apply Mt)) q_ix_c2_1) rfl rfl rfl H491 ?_
                        clear H491; intro a492 H492
                        refine hfinA H492.sep ?_
                        refine htake 17 rfl (by kernel_rfl) (y_slS_lo rfl Try.underlying30 z_size38 rfl rfl (by omega) (by omega)) rfl rfl rfl (fun _ h => (h.sub (by first | exact S0 | exact S1 | repeat (first | exact S1 | exact S0 | apply S2 | apply S3)))) H492 ?_
                        clear H492; intro a493 H493
                        refine hgo 18 rfl (by kernel_rfl) ?_
                        refine st_append rfl z_slice30 z_notint30 rfl rfl (fun _ => (by repeat (first | exact Uh | apply Ut))) (fun w hs => Src.slice ((Pool.rds hLL (rd_row (by repeat (first | exact Mh | apply Mt))) (((Pool.pos (Pool.left size L) x : Nat) : Int).toNat) c3 hcap3) w hs) hsB (Pool.wc_cell _)) (by unfold maxLen at *; omega) (by omega) rfl rfl rfl H493 ?_
                        clear H493; intro v494 a494 wx494 hnil494 H494
                        obtain ⟨ArW, crW, hvrW, hRrW, hmrW⟩ := row_shape (v := v494) H494.sep (by repeat (first | exact Mh | apply Mt))
                        subst hvrW
                        refine hfinA H494.sep ?_
                        refine htake 19 rfl (by kernel_rfl) (y_nilCheck rfl rfl) rfl rfl rfl (fun _ h => (h.sub (by first | exact S0 | exact S1 | repeat (first | exact S1 | exact S0 | apply S2 | apply S3)))) H494 ?_
                        clear H494; intro a495 H495
                        refine htake 20 rfl (by kernel_rfl) (y_fieldB rfl z_field63_1 rfl (by first | (simp only [Nat.zero_add, Nat.add_zero, Nat.reduceAdd]; rfl) | rfl)) rfl rfl rfl (fun _ h => (h.sub (by first | exact S0 | exact S1 | repeat (first | exact S1 | exact S0 | apply S2 | apply S3)))) H495 ?_
                        clear H495; intro a496 H496
                        refine hgo 21 rfl (by kernel_rfl) ?_
                        refine st_store1N rfl z_size30 rfl rfl rfl (by repeat (first | exact Uh | apply Ut)) q_len_c2 q_set_c2_1 (by decide) rfl rfl H496 ?_
                        clear H496; intro wx497 H497
                        refine hfinA H497.sep ?_
                        refine hdone (by kernel_rfl) ?_
                        refine cut_n ?_
                        have hsx := H497.sep.sub (l' := [It.row _ 76 (.slice ArW _ crW) _ _, It.blk bp 63 _, It.blk b168 38 _, It.blk b2 38 _]) (by repeat (first | exact S1 | exact S0 | apply S2 | apply S3))
                        simp only [List.nil_append, Int.toNat_natCast, Nat.zero_add, Pool.ins_cells, Pool.ins_count] at hsx
                        exact ⟨_, H497.fr.weak ⟨rfl, rfl, rfl, trivial⟩, hsx⟩
                      · skip
                        refine plain (y_loadB rfl z_agg30 rfl (by repeat (first | exact Mh | apply Mt)) q_ix_c2_1) rfl rfl rfl H490 ?_
                        clear H490; intro a498 H498
                        refine hfinA H498.sep ?_
                        refine htake 17 rfl (by kernel_rfl) (y_slS_lo rfl Try.underlying30 z_size38 rfl rfl (by omega) (by omega)) rfl rfl rfl (fun _ h => (h.sub (by first | exact S0 | exact S1 | repeat (first | exact S1 | exact S0 | apply S2 | apply S3)))) H498 ?_
                        clear H498; intro a499 H499
                        refine hgo 11 rfl (by kernel_rfl) ?_
                        refine st_append rfl z_slice30 z_notint30 rfl rfl (fun _ => (by repeat (first | exact Uh | apply Ut))) (fun w hs => Src.slice ((rd_blkA (by repeat (first | exact Mh | apply Mt))) w hs) wx.len (Pool.wait_cell _)) (by unfold maxLen at *; omega) (by omega) rfl rfl rfl H499 ?_
                        clear H499; intro v500 a500 wx500 hnil500 H500
                        obtain ⟨Ar500, cr500, hvr500, hRr500, hmr500⟩ := row_shape (v := v500) H500.sep (by repeat (first | exact Mh | apply Mt))
                        subst hvr500
                        refine hfinA H500.sep ?_
                        refine hgo 18 rfl (by kernel_rfl) ?_
                        refine st_append rfl z_slice30 z_notint30 rfl rfl (fun _ => (by repeat (first | exact Uh | apply Ut))) (fun w hs => Src.slice ((Pool.rds hLL (rd_row (by repeat (first | exact Mh | apply Mt))) (((Pool.pos (Pool.left size L) x : Nat) : Int).toNat) c3 hcap3) w hs) hsB (Pool.wc_cell _)) (by unfold maxLen at *; omega) (by omega) rfl rfl rfl H500 ?_
                        clear H500; intro v501 a501 wx501 hnil501 H501
                        obtain ⟨ArW, crW, hvrW, hRrW, hmrW⟩ := row_shape (v := v501) H501.sep (by repeat (first | exact Mh | apply Mt))
                        subst hvrW
                        refine hfinA H501.sep ?_
                        refine htake 19 rfl (by kernel_rfl) (y_nilCheck rfl rfl) rfl rfl rfl (fun _ h => (h.sub (by first | exact S0 | exact S1 | repeat (first | exact S1 | exact S0 | apply S2 | apply S3)))) H501 ?_
                        clear H501; intro a502 H502
                        refine htake 20 rfl (by kernel_rfl) (y_fieldB rfl z_field63_1 rfl (by first | (simp only [Nat.zero_add, Nat.add_zero, Nat.reduceAdd]; rfl) | rfl)) rfl rfl rfl (fun _ h => (h.sub (by first | exact S0 | exact S1 | repeat (first | exact S1 | exact S0 | apply S2 | apply S3)))) H502 ?_
                        clear H502; intro a503 H503
                        refine hgo 21 rfl (by kernel_rfl) ?_
                        refine st_store1N rfl z_size30 rfl rfl rfl (by repeat (first | exact Uh | apply Ut)) q_len_c2 q_set_c2_1 (by decide) rfl rfl H503 ?_
                        clear H503; intro wx504 H504
                        refine hfinA H504.sep ?_
                        refine hdone (by kernel_rfl) ?_
                        refine cut_n ?_
                        have hsx := H504.sep.sub (l' := [It.row _ 76 (.slice ArW _ crW) _ _, It.blk bp 63 _, It.blk b168 38 _, It.blk b2 38 _]) (by repeat (first | exact S1 | exact S0 | apply S2 | apply S3))
                        simp only [List.nil_append, Int.toNat_natCast, Nat.zero_add, Pool.ins_cells, Pool.ins_count] at hsx
                        exact ⟨_, H504.fr.weak ⟨rfl, rfl, rfl, trivial⟩, hsx⟩
                    · skip
                      refine plain (y_loadB rfl z_agg30 rfl (by repeat (first | exact Mh | apply Mt)) q_ix_c2_1) rfl rfl rfl H489 ?_
                      clear H489; intro a505 H505
                      refine hfinA H505.sep ?_
                      refine htake 17 rfl (by kernel_rfl) (y_slS_lo rfl Try.underlying30 z_size38 rfl rfl (by omega) (by omega)) rfl rfl rfl (fun _ h => (h.sub (by first | exact S0 | exact S1 | repeat (first | exact S1 | exact S0 | apply S2 | apply S3)))) H505 ?_
                      clear H505; intro a506 H506
                      refine hgo 8 rfl (by kernel_rfl) ?_
                      replace H506 := H506.asRow (b := b487) (size := 76) (m := 0) (by repeat (first | exact Uh | apply Ut)) rfl (by unfold maxLen; omega)
                      refine st_append rfl z_slice30 z_notint30 rfl rfl (fun _ => (by repeat (first | exact Uh | apply Ut))) (fun w hs => Src.slice ((Pool.rdp hLL (rd_row (by repeat (first | exact Mh | apply Mt))) (((Pool.pos (Pool.left size L) x : Nat) : Int).toNat)) w hs) hsA (Pool.wc_cell _)) (by unfold maxLen at *; omega) (by omega) rfl rfl rfl H506 ?_
                      clear H506; intro v507 a507 wx507 hnil507 H507
                      obtain ⟨Ar507, cr507, hvr507, hRr507, hmr507⟩ := row_shape (v := v507) H507.sep (by repeat (first | exact Mh | apply Mt))
                      subst hvr507
                      refine hfinA H507.sep ?_
                      refine hgo 11 rfl (by kernel_rfl) ?_
                      refine st_append rfl z_slice30 z_notint30 rfl rfl (fun _ => (by repeat (first | exact Uh | apply Ut))) (fun w hs => Src.slice ((rd_blkA (by repeat (first | exact Mh | apply Mt))) w hs) wx.len (Pool.wait_cell _)) (by unfold maxLen at *; omega) (by omega) rfl rfl rfl H507 ?_
                      clear H507; intro v508 a508 wx508 hnil508 H508
                      obtain ⟨Ar508, cr508, hvr508, hRr508, hmr508⟩ := row_shape (v := v508) H508.sep (by repeat (first | exact Mh | apply Mt))
                      subst hvr508
                      refine hfinA H508.sep ?_
                      refine hgo 18 rfl (by kernel_rfl) ?_
                      refine st_append rfl z_slice30 z_notint30 rfl rfl (fun _ => (by repeat (first | exact Uh | apply Ut))) (fun w hs => Src.slice ((Pool.rds hLL (rd_row (by repeat (first | exact Mh | apply Mt))) (((Pool.pos (Pool.left size L) x : Nat) : Int).toNat) c3 hcap3) w hs) hsB (Pool.wc_cell _)) (by unfold maxLen at *; omega) (by omega) rfl rfl rfl H508 ?_
                      clear H508; intro v509 a509 wx509 hnil509 H509
                      obtain ⟨ArW, crW, hvrW, hRrW, hmrW⟩ := row_shape (v := v509) H509.sep (by repeat (first | exact Mh | apply Mt))
                      subst hvrW
                      refine hfinA H509.sep ?_
                      refine htake 19 rfl (by kernel_rfl) (y_nilCheck rfl rfl) rfl rfl rfl (fun _ h => (h.sub (by first | exact S0 | exact S1 | repeat (first | exact S1 | exact S0 | apply S2 | apply S3)))) H509 ?_
                      clear H509; intro a510 H510
                      refine htake 20 rfl (by kernel_rfl) (y_fieldB rfl z_field63_1 rfl (by first | (simp only [Nat.zero_add, Nat.add_zero, Nat.reduceAdd]; rfl) | rfl)) rfl rfl rfl (fun _ h => (h.sub (by first | exact S0 | exact S1 | repeat (first | exact S1 | exact S0 | apply S2 | apply S3)))) H510 ?_
                      clear H510; intro a511 H511
                      refine hgo 21 rfl (by kernel_rfl) ?_
                      refine st_store1N rfl z_size30 rfl rfl rfl (by repeat (first | exact Uh | apply Ut)) q_len_c2 q_set_c2_1 (by decide) rfl rfl H511 ?_
                      clear H511; intro wx512 H512
                      refine hfinA H512.sep ?_
                      refine hdone (by kernel_rfl) ?_
                      refine cut_n ?_
                      have hsx := H512.sep.sub (l' := [It.row _ 76 (.slice ArW _ crW) _ _, It.blk bp 63 _, It.blk b168 38 _, It.blk b2 38 _]) (by repeat (first | exact S1 | exact S0 | apply S2 | apply S3))
                      simp only [List.nil_append, Int.toNat_natCast, Nat.zero_add, Pool.ins_cells, Pool.ins_count] at hsx
                      exact ⟨_, H512.fr.weak ⟨rfl, rfl, rfl, trivial⟩, hsx⟩
                  · skip
                    refine plain (y_loadB rfl z_agg30 rfl (by repeat (first | exact Mh | apply Mt)) q_ix_c2_1) rfl rfl rfl H487 ?_
                    clear H487; intro a513 H513
                    refine hfinA H513.sep ?_
                    refine htake 17 rfl (by kernel_rfl) (y_slS_lo rfl Try.underlying30 z_size38 rfl rfl (by omega) (by omega)) rfl rfl rfl (fun _ h => (h.sub (by first | exact S0 | exact S1 | repeat (first | exact S1 | exact S0 | apply S2 | apply S3)))) H513 ?_
                    clear H513; intro a514 H514
                    refine hgo 5 rfl (by kernel_rfl) ?_
                    refine plain (y_loadB rfl z_agg30 rfl (by repeat (first | exact Mh | apply Mt)) q_ix_c2_1) rfl rfl rfl H514 ?_
                    clear H514; intro a515 H515
                    refine hfinA H515.sep ?_
                    refine htake 7 rfl (by kernel_rfl) (y_slS_hi rfl Try.underlying30 z_size38 rfl rfl (by omega) (by omega) (by omega)) rfl rfl rfl (fun _ h => (h.sub (by first | exact S0 | exact S1 | repeat (first | exact S1 | exact S0 | apply S2 | apply S3)))) H515 ?_
                    clear H515; intro a516 H516
                    refine hgo 8 rfl (by kernel_rfl) ?_
                    replace H516 := H516.asRow (b := b487) (size := 76) (m := 0) (by repeat (first | exact Uh | apply Ut)) rfl (by unfold maxLen; omega)
                    refine st_append rfl z_slice30 z_notint30 rfl rfl (fun _ => (by repeat (first | exact Uh | apply Ut))) (fun w hs => Src.slice ((Pool.rdp hLL (rd_row (by repeat (first | exact Mh | apply Mt))) (((Pool.pos (Pool.left size L) x : Nat) : Int).toNat)) w hs) hsA (Pool.wc_cell _)) (by unfold maxLen at *; omega) (by omega) rfl rfl rfl H516 ?_
                    clear H516; intro v517 a517 wx517 hnil517 H517
                    obtain ⟨Ar517, cr517, hvr517, hRr517, hmr517⟩ := row_shape (v := v517) H517.sep (by repeat (first | exact Mh | apply Mt))
                    subst hvr517
                    refine hfinA H517.sep ?_
                    refine hgo 11 rfl (by kernel_rfl) ?_
                    refine st_append rfl z_slice30 z_notint30 rfl rfl (fun _ => (by repeat (first | exact Uh | apply Ut))) (fun w hs => Src.slice ((rd_blkA (by repeat (first | exact Mh | apply Mt))) w hs) wx.len (Pool.wait_cell _)) (by unfold maxLen at *; omega) (by omega) rfl rfl rfl H517 ?_
                    clear H517; intro v518 a518 wx518 hnil518 H518
                    obtain ⟨Ar518, cr518, hvr518, hRr518, hmr518⟩ := row_shape (v := v518) H518.sep (by repeat (first | exact Mh | apply Mt))
                    subst hvr518
                    refine hfinA H518.sep ?_
                    refine hgo 18 rfl (by kernel_rfl) ?_
                    refine st_append rfl z_slice30 z_notint30 rfl rfl (fun _ => (by repeat (first | exact Uh | apply Ut))) (fun w hs => Src.slice ((Pool.rds hLL (rd_row (by repeat (first | exact Mh | apply Mt))) (((Pool.pos (Pool.left size L) x : Nat) : Int).toNat) c3 hcap3) w hs) hsB (Pool.wc_cell _)) (by unfold maxLen at *; omega) (by omega) rfl rfl rfl H518 ?_
                    clear H518; intro v519 a519 wx519 hnil519 H519
                    obtain ⟨ArW, crW, hvrW, hRrW, hmrW⟩ := row_shape (v := v519) H519.sep (by repeat (first | exact Mh | apply Mt))
                    subst hvrW
                    refine hfinA H519.sep ?_
                    refine htake 19 rfl (by kernel_rfl) (y_nilCheck rfl rfl) rfl rfl rfl (fun _ h => (h.sub (by first | exact S0 | exact S1 | repeat (first | exact S1 | exact S0 | apply S2 | apply S3)))) H519 ?_
                    clear H519; intro a520 H520
                    refine htake 20 rfl (by kernel_rfl) (y_fieldB rfl z_field63_1 rfl (by first | (simp only [Nat.zero_add, Nat.add_zero, Nat.reduceAdd]; rfl) | rfl)) rfl rfl rfl (fun _ h => (h.sub (by first | exact S0 | exact S1 | repeat (first | exact S1 | exact S0 | apply S2 | apply S3)))) H520 ?_
                    clear H520; intro a521 H521
                    refine hgo 21 rfl (by kernel_rfl) ?_
                    refine st_store1N rfl z_size30 rfl rfl rfl (by repeat (first | exact Uh | apply Ut)) q_len_c2 q_set_c2_1 (by decide) rfl rfl H521 ?_
                    clear H521; intro wx522 H522
                    refine hfinA H522.sep ?_
                    refine hdone (by kernel_rfl) ?_
                    refine cut_n ?_
                    have hsx := H522.sep.sub (l' := [It.row _ 76 (.slice ArW _ crW) _ _, It.blk bp 63 _, It.blk b168 38 _, It.blk b2 38 _]) (by repeat (first | exact S1 | exact S0 | apply S2 | apply S3))
                    simp only [List.nil_append, Int.toNat_natCast, Nat.zero_add, Pool.ins_cells, Pool.ins_count] at hsx
                    exact ⟨_, H522.fr.weak ⟨rfl, rfl, rfl, trivial⟩, hsx⟩
                · skip
                  refine plain (y_loadB rfl z_agg30 rfl (by repeat (first | exact Mh | apply Mt)) q_ix_c2_1) rfl rfl rfl H486 ?_
                  clear H486; intro a523 H523
                  refine hfinA H523.sep ?_
                  refine htake 7 rfl (by kernel_rfl) (y_slS_hi rfl Try.underlying30 z_size38 rfl rfl (by omega) (by omega) (by omega)) rfl rfl rfl (fun _ h => (h.sub (by first | exact S0 | exact S1 | repeat (first | exact S1 | exact S0 | apply S2 | apply S3)))) H523 ?_
                  clear H523; intro a524 H524
                  refine hgo2 1 15 rfl rfl (by kernel_rfl) ?_ ?_
                  · skip
                    refine st_buildSlice rfl Try.underlying30 z_size38 z_zero38 rfl rfl rfl (show _ = some ([] : List Value) from rfl) rfl rfl rfl H524 ?_
                    clear H524; intro b525 a525 wx525 H525
                    refine hfinA H525.sep ?_
                    refine hgo2 8 15 rfl rfl (by kernel_rfl) ?_ ?_
                    · skip
                      replace H525 := H525.asRow (b := b525) (size := 76) (m := 0) (by repeat (first | exact Uh | apply Ut)) rfl (by unfold maxLen; omega)
                      refine st_append rfl z_slice30 z_notint30 rfl rfl (fun _ => (by repeat (first | exact Uh | apply Ut))) (fun w hs => Src.slice ((Pool.rdp hLL (rd_row (by repeat (first | exact Mh | apply Mt))) (((Pool.pos (Pool.left size L) x : Nat) : Int).toNat)) w hs) hsA (Pool.wc_cell _)) (by unfold maxLen at *; omega) (by omega) rfl rfl rfl H525 ?_
                      clear H525; intro v526 a526 wx526 hnil526 H526
                      obtain ⟨Ar526, cr526, hvr526, hRr526, hmr526⟩ := row_shape (v := v526) H526.sep (by repeat (first | exact Mh | apply Mt))
                      subst hvr526
                      refine hfinA H526.sep ?_
                      refine hgo2 11 15 rfl rfl (by kernel_rfl) ?_ ?_
                      · skip
                        refine st_append rfl z_slice30 z_notint30 rfl rfl (fun _ => (by repeat (first | exact Uh | apply Ut))) (fun w hs => Src.slice ((rd_blkA (by repeat (first | exact Mh | apply Mt))) w hs) wx.len (Pool.wait_cell _)) (by unfold maxLen at *; omega) (by omega) rfl rfl rfl H526 ?_
                        clear H526; intro v527 a527 wx527 hnil527 H527
                        obtain ⟨Ar527, cr527, hvr527, hRr527, hmr527⟩ := row_shape (v := v527) H527.sep (by repeat (first | exact Mh | apply Mt))
                        subst hvr527
                        refine hfinA H527.sep ?_
                        refine hgo 15 rfl (by kernel_rfl) ?_
                        refine plain (y_loadB rfl z_agg30 rfl (by repeat (first | exact Mh | apply Mt)) q_ix_c2_1) rfl rfl rfl H527 ?_
                        clear H527; intro a528 H528
                        refine hfinA H528.sep ?_
                        refine htake 17 rfl (by kernel_rfl) (y_slS_lo rfl Try.underlying30 z_size38 rfl rfl (by omega) (by omega)) rfl rfl rfl (fun _ h => (h.sub (by first | exact S0 | exact S1 | repeat (first | exact S1 | exact S0 | apply S2 | apply S3)))) H528 ?_
                        clear H528; intro a529 H529
                        refine hgo 18 rfl (by kernel_rfl) ?_
                        refine st_append rfl z_slice30 z_notint30 rfl rfl (fun _ => (by repeat (first | exact Uh | apply Ut))) (fun w hs => Src.slice ((Pool.rds hLL (rd_row (by repeat (first | exact Mh | apply Mt))) (((Pool.pos (Pool.left size L) x : Nat) : Int).toNat) c3 hcap3) w hs) hsB (Pool.wc_cell _)) (by unfold maxLen at *; omega) (by omega) rfl rfl rfl H529 ?_
                        clear H529; intro v530 a530 wx530 hnil530 H530
                        obtain ⟨ArW, crW, hvrW, hRrW, hmrW⟩ := row_shape (v := v530) H530.sep (by repeat (first | exact Mh | apply Mt))
                        subst hvrW
                        refine hfinA H530.sep ?_
                        refine htake 19 rfl (by kernel_rfl) (y_nilCheck rfl rfl) rfl rfl rfl (fun _ h => (h.sub (by first | exact S0 | exact S1 | repeat (first | exact S1 | exact S0 | apply S2 | apply S3)))) H530 ?_
                        clear H530; intro a531 H531
                        refine htake 20 rfl (by kernel_rfl) (y_fieldB rfl z_field63_1 rfl (by first | (simp only [Nat.zero_add, Nat.add_zero, Nat.reduceAdd]; rfl) | rfl)) rfl rfl rfl (fun _ h => (h.sub (by first | exact S0 | exact S1 | repeat (first | exact S1 | exact S0 | apply S2 | apply S3)))) H531 ?_
                        clear H531; intro a532 H532
                        refine hgo 21 rfl (by kernel_rfl) ?_
                        refine st_store1N rfl z_size30 rfl rfl rfl (by repeat (first | exact Uh | apply Ut)) q_len_c2 q_set_c2_1 (by decide) rfl rfl H532 ?_
                        clear H532; intro wx533 H533
                        refine hfinA H533.sep ?_
                        refine hdone (by kernel_rfl) ?_
                        refine cut_n ?_
                        have hsx := H533.sep.sub (l' := [It.row _ 76 (.slice ArW _ crW) _ _, It.blk bp 63 _, It.blk b168 38 _, It.blk b2 38 _]) (by repeat (first | exact S1 | exact S0 | apply S2 | apply S3))
                        simp only [List.nil_append, Int.toNat_natCast, Nat.zero_add, Pool.ins_cells, Pool.ins_count] at hsx
                        exact ⟨_, H533.fr.weak ⟨rfl, rfl, rfl, trivial⟩, hsx⟩
                      · skip
                        refine plain (y_loadB rfl z_agg30 rfl (by repeat (first | exact Mh | apply Mt)) q_ix_c2_1) rfl rfl rfl H526 ?_
                        clear H526; intro a534 H534
                        refine hfinA H534.sep ?_
                        refine htake 17 rfl (by kernel_rfl) (y_slS_lo rfl Try.underlying30 z_size38 rfl rfl (by omega) (by omega)) rfl rfl rfl (fun _ h => (h.sub (by first | exact S0 | exact S1 | repeat (first | exact S1 | exact S0 | apply S2 | apply S3)))) H534 ?_
                        clear H534; intro a535 H535
                        refine hgo 11 rfl (by kernel_rfl) ?_
                        refine st_append rfl z_slice30 z_notint30 rfl rfl (fun _ => (by repeat (first | exact Uh | apply Ut))) (fun w hs => Src.slice ((rd_blkA (by repeat (first | exact Mh | apply Mt))) w hs) wx.len (Pool.wait_cell _)) (by unfold maxLen at *; omega) (by omega) rfl rfl rfl H535 ?_
                        clear H535; intro v536 a536 wx536 hnil536 H536
                        obtain ⟨Ar536, cr536, hvr536, hRr536, hmr536⟩ := row_shape (v := v536) H536.sep (by repeat (first | exact Mh | apply Mt))
                        subst hvr536
                        refine hfinA H536.sep ?_
                        refine hgo 18 rfl (by kernel_rfl) ?_
                        refine st_append rfl z_slice30 z_notint30 rfl rfl (fun _ => (by repeat (first | exact Uh | apply Ut))) (fun w hs => Src.slice ((Pool.rds hLL (rd_row (by repeat (first | exact Mh | apply Mt))) (((Pool.pos (Pool.left size L) x : Nat) : Int).toNat) c3 hcap3) w hs) hsB (Pool.wc_cell _)) (by unfold maxLen at *; omega) (by omega) rfl rfl rfl H536 ?_
                        clear H536; intro v537 a537 wx537 hnil537 H537
                        obtain ⟨ArW, crW, hvrW, hRrW, hmrW⟩ := row_shape (v := v537) H537.sep (by repeat (first | exact Mh | apply Mt))
                        subst hvrW
                        refine hfinA H537.sep ?_
                        refine htake 19 rfl (by kernel_rfl) (y_nilCheck rfl rfl) rfl rfl rfl (fun _ h => (h.sub (by first | exact S0 | exact S1 | repeat (first | exact S1 | exact S0 | apply S2 | apply S3)))) H537 ?_
                        clear H537; intro a538 H538
                        refine htake 20 rfl (by kernel_rfl) (y_fieldB rfl z_field63_1 rfl (by first | (simp only [Nat.zero_add, Nat.add_zero, Nat.reduceAdd]; rfl) | rfl)) rfl rfl rfl (fun _ h => (h.sub (by first | exact S0 | exact S1 | repeat (first | exact S1 | exact S0 | apply S2 | apply S3)))) H538 ?_
                        clear H538; intro a539 H539
                        refine hgo 21 rfl (by kernel_rfl) ?_
                        refine st_store1N rfl z_size30 rfl rfl rfl (by repeat (first | exact Uh | apply Ut)) q_len_c2 q_set_c2_1 (by decide) rfl rfl H539 ?_
                        clear H539; intro wx540 H540
                        refine hfinA H540.sep ?_
                        refine hdone (by kernel_rfl) ?_
                        refine cut_n ?_
                        have hsx := H540.sep.sub (l' := [It.row _ 76 (.slice ArW _ crW) _ _, It.blk bp 63 _, It.blk b168 38 _, It.blk b2 38 _]) (by repeat (first | exact S1 | exact S0 | apply S2 | apply S3))
                        simp only [List.nil_append, Int.toNat_natCast, Nat.zero_add, Pool.ins_cells, Pool.ins_count] at hsx
                        exact ⟨_, H540.fr.weak ⟨rfl, rfl, rfl, trivial⟩, hsx⟩
                    · skip
                      refine plain (y_loadB rfl z_agg30 rfl (by repeat (first | exact Mh | apply Mt)) q_ix_c2_1) rfl rfl rfl H525 ?_
                      clear H525; intro a541 H541
                      refine hfinA H541.sep ?_
                      refine htake 17 rfl (by kernel_rfl) (y_slS_lo rfl Try.underlying30 z_size38 rfl rfl (by omega) (by omega)) rfl rfl rfl (fun _ h => (h.sub (by first | exact S0 | exact S1 | repeat (first | exact S1 | exact S0 | apply S2 | apply S3)))) H541 ?_
                      clear H541; intro a542 H542
                      refine hgo 8 rfl (by kernel_rfl) ?_
                      replace H542 := H542.asRow (b := b525) (size := 76) (m := 0) (by repeat (first | exact Uh | apply Ut)) rfl (by unfold maxLen; omega)
                      refine st_append rfl z_slice30 z_notint30 rfl rfl (fun _ => (by repeat (first | exact Uh | apply Ut))) (fun w hs => Src.slice ((Pool.rdp hLL (rd_row (by repeat (first | exact Mh | apply Mt))) (((Pool.pos (Pool.left size L) x : Nat) : Int).toNat)) w hs) hsA (Pool.wc_cell _)) (by unfold maxLen at *; omega) (by omega) rfl rfl rfl H542 ?_
                      clear H542; intro v543 a543 wx543 hnil543 H543
                      obtain ⟨Ar543, cr543, hvr543, hRr543, hmr543⟩ := row_shape (v := v543) H543.sep (by repeat (first | exact Mh | apply Mt))
                      subst hvr543
                      refine hfinA H543.sep ?_
                      refine hgo 11 rfl (by kernel_rfl) ?_
                      refine st_append rfl z_slice30 z_notint30 rfl rfl (fun _ => (by repeat (first | exact Uh | apply Ut))) (fun w hs => Src.slice ((rd_blkA (by repeat (first | exact Mh | apply Mt))) w hs) wx.len (Pool.wait_cell _)) (by unfold maxLen at *; omega) (by omega) rfl rfl rfl H543 ?_
                      clear H543; intro v544 a544 wx544 hnil544 H544
                      obtain ⟨Ar544, cr544, hvr544, hRr544, hmr544⟩ := row_shape (v := v544) H544.sep (by repeat (first | exact Mh | apply Mt))
                      subst hvr544
                      refine hfinA H544.sep ?_
                      refine hgo 18 rfl (by kernel_rfl) ?_
                      refine st_append rfl z_slice30 z_notint30 rfl rfl (fun _ => (by repeat (first | exact Uh | apply Ut))) (fun w hs => Src.slice ((Pool.rds hLL (rd_row (by repeat (first | exact Mh | apply Mt))) (((Pool.pos (Pool.left size L) x : Nat) : Int).toNat) c3 hcap3) w hs) hsB (Pool.wc_cell _)) (by unfold maxLen at *; omega) (by omega) rfl rfl rfl H544 ?_
                      clear H544; intro v545 a545 wx545 hnil545 H545
                      obtain ⟨ArW, crW, hvrW, hRrW, hmrW⟩ := row_shape (v := v545) H545.sep (by repeat (first | exact Mh | apply Mt))
                      subst hvrW
                      refine hfinA H545.sep ?_
                      refine htake 19 rfl (by kernel_rfl) (y_nilCheck rfl rfl) rfl rfl rfl (fun _ h => (h.sub (by first | exact S0 | exact S1 | repeat (first | exact S1 | exact S0 | apply S2 | apply S3)))) H545 ?_
                      clear H545; intro a546 H546
                      refine htake 20 rfl (by kernel_rfl) (y_fieldB rfl z_field63_1 rfl (by first | (simp only [Nat.zero_add, Nat.add_zero, Nat.reduceAdd]; rfl) | rfl)) rfl rfl rfl (fun _ h => (h.sub (by first | exact S0 | exact S1 | repeat (first | exact S1 | exact S0 | apply S2 | apply S3)))) H546 ?_
                      clear H546; intro a547 H547
                      refine hgo 21 rfl (by kernel_rfl) ?_
                      refine st_store1N rfl z_size30 rfl rfl rfl (by repeat (first | exact Uh | apply Ut)) q_len_c2 q_set_c2_1 (by decide) rfl rfl H547 ?_
                      clear H547; intro wx548 H548
                      refine hfinA H548.sep ?_
                      refine hdone (by kernel_rfl) ?_
                      refine cut_n ?_
                      have hsx := H548.sep.sub (l' := [It.row _ 76 (.slice ArW _ crW) _ _, It.blk bp 63 _, It.blk b168 38 _, It.blk b2 38 _]) (by repeat (first | exact S1 | exact S0 | apply S2 | apply S3))
                      simp only [List.nil_append, Int.toNat_natCast, Nat.zero_add, Pool.ins_cells, Pool.ins_count] at hsx
                      exact ⟨_, H548.fr.weak ⟨rfl, rfl, rfl, trivial⟩, hsx⟩
                  · skip
                    refine plain (y_loadB rfl z_agg30 rfl (by repeat (first | exact Mh | apply Mt)) q_ix_c2_1) rfl rfl rfl H524 ?_
                    clear H524; intro a549 H549
                    refine hfinA H549.sep ?_
                    refine htake 17 rfl (by kernel_rfl) (y_slS_lo rfl Try.underlying30 z_size38 rfl rfl (by omega) (by omega)) rfl rfl rfl (fun _ h => (h.sub (by first | exact S0 | exact S1 | repeat (first | exact S1 | exact S0 | apply S2 | apply S3)))) H549 ?_
                    clear H549; intro a550 H550
                    refine hgo 1 rfl (by kernel_rfl) ?_
                    refine st_buildSlice rfl Try.underlying30 z_size38 z_zero38 rfl rfl rfl (show _ = some ([] : List Value) from rfl) rfl rfl rfl H550 ?_
                    clear H550; intro b551 a551 wx551 H551
                    refine hfinA H551.sep ?_
                    refine hgo 8 rfl (by kernel_rfl) ?_
                    replace H551 := H551.asRow (b := b551) (size := 76) (m := 0) (by repeat (first | exact Uh | apply Ut)) rfl (by unfold maxLen; omega)
                    refine st_append rfl z_slice30 z_notint30 rfl rfl (fun _ => (by repeat (first | exact Uh | apply Ut))) (fun w hs => Src.slice ((Pool.rdp hLL (rd_row (by repeat (first | exact Mh | apply Mt))) (((Pool.pos (Pool.left size L) x : Nat) : Int).toNat)) w hs) hsA (Pool.wc_cell _)) (by unfold maxLen at *; omega) (by omega) rfl rfl rfl H551 ?_
                    clear H551; intro v552 a552 wx552 hnil552 H552
                    obtain ⟨Ar552, cr552, hvr552, hRr552, hmr552⟩ := row_shape (v := v552) H552.sep (by repeat (first | exact Mh | apply Mt))
                    subst hvr552
                    refine hfinA H552.sep ?_
                    refine hgo 11 rfl (by kernel_rfl) ?_
                    refine st_append rfl z_slice30 z_notint30 rfl rfl (fun _ => (by repeat (first | exact Uh | apply Ut))) (fun w hs => Src.slice ((rd_blkA (by repeat (first | exact Mh | apply Mt))) w hs) wx.len (Pool.wait_cell _)) (by unfold maxLen at *; omega) (by omega) rfl rfl rfl H552 ?_
                    clear H552; intro v553 a553 wx553 hnil553 H553
                    obtain ⟨Ar553, cr553, hvr553, hRr553, hmr553⟩ := row_shape (v := v553) H553.sep (by repeat (first | exact Mh | apply Mt))
                    subst hvr553
                    refine hfinA H553.sep ?_
                    refine hgo 18 rfl (by kernel_rfl) ?_
                    refine st_append rfl z_slice30 z_notint30 rfl rfl (fun _ => (by repeat (first | exact Uh | apply Ut))) (fun w hs => Src.slice ((Pool.rds hLL (rd_row (by repeat (first | exact Mh | apply Mt))) (((Pool.pos (Pool.left size L) x : Nat) : Int).toNat) c3 hcap3) w hs) hsB (Pool.wc_cell _)) (by unfold maxLen at *; omega) (by omega) rfl rfl rfl H553 ?_
                    clear H553; intro v554 a554 wx554 hnil554 H554
                    obtain ⟨ArW, crW, hvrW, hRrW, hmrW⟩ := row_shape (v := v554) H554.sep (by repeat (first | exact Mh | apply Mt))
                    subst hvrW
                    refine hfinA H554.sep ?_
                    refine htake 19 rfl (by kernel_rfl) (y_nilCheck rfl rfl) rfl rfl rfl (fun _ h => (h.sub (by first | exact S0 | exact S1 | repeat (first | exact S1 | exact S0 | apply S2 | apply S3)))) H554 ?_
                    clear H554; intro a555 H555
                    refine htake 20 rfl (by kernel_rfl) (y_fieldB rfl z_field63_1 rfl (by first | (simp only [Nat.zero_add, Nat.add_zero, Nat.reduceAdd]; rfl) | rfl)) rfl rfl rfl (fun _ h => (h.sub (by first | exact S0 | exact S1 | repeat (first | exact S1 | exact S0 | apply S2 | apply S3)))) H555 ?_
                    clear H555; intro a556 H556
                    refine hgo 21 rfl (by kernel_rfl) ?_
                    refine st_store1N rfl z_size30 rfl rfl rfl (by repeat (first | exact Uh | apply Ut)) q_len_c2 q_set_c2_1 (by decide) rfl rfl H556 ?_
                    clear H556; intro wx557 H557
                    refine hfinA H557.sep ?_
                    refine hdone (by kernel_rfl) ?_
                    refine cut_n ?_
                    have hsx := H557.sep.sub (l' := [It.row _ 76 (.slice ArW _ crW) _ _, It.blk bp 63 _, It.blk b168 38 _, It.blk b2 38 _]) (by repeat (first | exact S1 | exact S0 | apply S2 | apply S3))
                    simp only [List.nil_append, Int.toNat_natCast, Nat.zero_add, Pool.ins_cells, Pool.ins_count] at hsx
                    exact ⟨_, H557.fr.weak ⟨rfl, rfl, rfl, trivial⟩, hsx⟩
                · skip
                  refine plain (y_loadB rfl z_agg30 rfl (by repeat (first | exact Mh | apply Mt)) q_ix_c2_1) rfl rfl rfl H486 ?_
                  clear H486; intro a558 H558
                  refine hfinA H558.sep ?_
                  refine htake 17 rfl (by kernel_rfl) (y_slS_lo rfl Try.underlying30 z_size38 rfl rfl (by omega) (by omega)) rfl rfl rfl (fun _ h => (h.sub (by first | exact S0 | exact S1 | repeat (first | exact S1 | exact S0 | apply S2 | apply S3)))) H558 ?_
                  clear H558; intro a559 H559
                  refine hgo2 1 5 rfl rfl (by kernel_rfl) ?_ ?_
                  · skip
                    refine st_buildSlice rfl Try.underlying30 z_size38 z_zero38 rfl rfl rfl (show _ = some ([] : List Value) from rfl) rfl rfl rfl H559 ?_
                    clear H559; intro b560 a560 wx560 H560
                    refine hfinA H560.sep ?_
                    refine hgo 5 rfl (by kernel_rfl) ?_
                    refine plain (y_loadB rfl z_agg30 rfl (by repeat (first | exact Mh | apply Mt)) q_ix_c2_1) rfl rfl rfl H560 ?_
                    clear H560; intro a561 H561
                    refine hfinA H561.sep ?_
                    refine htake 7 rfl (by kernel_rfl) (y_slS_hi rfl Try.underlying30 z_size38 rfl rfl (by omega) (by omega) (by omega)) rfl rfl rfl (fun _ h => (h.sub (by first | exact S0 | exact S1 | repeat (first | exact S1 | exact S0 | apply S2 | apply S3)))) H561 ?_
                    clear H561; intro a562 H562
                    refine hgo 8 rfl (by kernel_rfl) ?_
                    replace H562 := H562.asRow (b := b560) (size := 76) (m := 0) (by repeat (first | exact Uh | apply Ut)) rfl (by unfold maxLen; omega)
                    refine st_append rfl z_slice30 z_notint30 rfl rfl (fun _ => (by repeat (first | exact Uh | apply Ut))) (fun w hs => Src.slice ((Pool.rdp hLL (rd_row (by repeat (first | exact Mh | apply Mt))) (((Pool.pos (Pool.left size L) x : Nat) : Int).toNat)) w hs) hsA (Pool.wc_cell _)) (by unfold maxLen at *; omega) (by omega) rfl rfl rfl H562 ?_
                    clear H562; intro v563 a563 wx563 hnil563 H563
                    obtain ⟨Ar563, cr563, hvr563, hRr563, hmr563⟩ := row_shape (v := v563) H563.sep (by repeat (first | exact Mh | apply Mt))
                    subst hvr563
                    refine hfinA H563.sep ?_
                    refine hgo 11 rfl (by kernel_rfl) ?_
                    refine st_append rfl z_slice30 z_notint30 rfl rfl (fun _ => (by repeat (first | exact Uh | apply Ut))) (fun w hs => Src.slice ((rd_blkA (by repeat (first | exact Mh | apply Mt))) w hs) wx.len (Pool.wait_cell _)) (by unfold maxLen at *; omega) (by omega) rfl rfl rfl H563 ?_
                    clear H563; intro v564 a564 wx564 hnil564 H564
                    obtain ⟨Ar564, cr564, hvr564, hRr564, hmr564⟩ := row_shape (v := v564) H564.sep (by repeat (first | exact Mh | apply Mt))
                    subst hvr564
                    refine hfinA H564.sep ?_
                    refine hgo 18 rfl (by kernel_rfl) ?_
                    refine st_append rfl z_slice30 z_notint30 rfl rfl (fun _ => (by repeat (first | exact Uh | apply Ut))) (fun w hs => Src.slice ((Pool.rds hLL (rd_row (by repeat (first | exact Mh | apply Mt))) (((Pool.pos (Pool.left size L) x : Nat) : Int).toNat) c3 hcap3) w hs) hsB (Pool.wc_cell _)) (by unfold maxLen at *; omega) (by omega) rfl rfl rfl H564 ?_
                    clear H564; intro v565 a565 wx565 hnil565 H565
                    obtain ⟨ArW, crW, hvrW, hRrW, hmrW⟩ := row_shape (v := v565) H565.sep (by repeat (first | exact Mh | apply Mt))
                    subst hvrW
                    refine hfinA H565.sep ?_
                    refine htake 19 rfl (by kernel_rfl) (y_nilCheck rfl rfl) rfl rfl rfl (fun _ h => (h.sub (by first | exact S0 | exact S1 | repeat (first | exact S1 | exact S0 | apply S2 | apply S3)))) H565 ?_
                    clear H565; intro a566 H566
                    refine htake 20 rfl (by kernel_rfl) (y_fieldB rfl z_field63_1 rfl (by first | (simp only [Nat.zero_add, Nat.add_zero, Nat.reduceAdd]; rfl) | rfl)) rfl rfl rfl (fun _ h => (h.sub (by first | exact S0 | exact S1 | repeat (first | exact S1 | exact S0 | apply S2 | apply S3)))) H566 ?_
                    clear H566; intro a567 H567
                    refine hgo 21 rfl (by kernel_rfl) ?_
                    refine st_store1N rfl z_size30 rfl rfl rfl (by repeat (first | exact Uh | apply Ut)) q_len_c2 q_set_c2_1 (by decide) rfl rfl H567 ?_
                    clear H567; intro wx568 H568
                    refine hfinA H568.sep ?_
                    refine hdone (by kernel_rfl) ?_
                    refine cut_n ?_
                    have hsx := H568.sep.sub (l' := [It.row _ 76 (.slice ArW _ crW) _ _, It.blk bp 63 _, It.blk b168 38 _, It.blk b2 38 _]) (by repeat (first | exact S1 | exact S0 | apply S2 | apply S3))
                    simp only [List.nil_append, Int.toNat_natCast, Nat.zero_add, Pool.ins_cells, Pool.ins_count] at hsx
                    exact ⟨_, H568.fr.weak ⟨rfl, rfl, rfl, trivial⟩, hsx⟩
                  · skip
                    refine plain (y_loadB rfl z_agg30 rfl (by repeat (first | exact Mh | apply Mt)) q_ix_c2_1) rfl rfl rfl H559 ?_
                    clear H559; intro a569 H569
                    refine hfinA H569.sep ?_
                    refine htake 7 rfl (by kernel_rfl) (y_slS_hi rfl Try.underlying30 z_size38 rfl rfl (by omega) (by omega) (by omega)) rfl rfl rfl (fun _ h => (h.sub (by first | exact S0 | exact S1 | repeat (first | exact S1 | exact S0 | apply S2 | apply S3)))) H569 ?_
                    clear H569; intro a570 H570
                    refine hgo 1 rfl (by kernel_rfl) ?_
                    refine st_buildSlice rfl Try.underlying30 z_size38 z_zero38 rfl rfl rfl (show _ = some ([] : List Value) from rfl) rfl rfl rfl H570 ?_
                    clear H570; intro b571 a571 wx571 H571
                    refine hfinA H571.sep ?_
                    refine hgo 8 rfl (by kernel_rfl) ?_
                    replace H571 := H571.asRow (b := b571) (size := 76) (m := 0) (by repeat (first | exact Uh | apply Ut)) rfl (by unfold maxLen; omega)
                    refine st_append rfl z_slice30 z_notint30 rfl rfl (fun _ => (by repeat (first | exact Uh | apply Ut))) (fun w hs => Src.slice ((Pool.rdp hLL (rd_row (by repeat (first | exact Mh | apply Mt))) (((Pool.pos (Pool.left size L) x : Nat) : Int).toNat)) w hs) hsA (Pool.wc_cell _)) (by unfold maxLen at *; omega) (by omega) rfl rfl rfl H571 ?_
                    clear H571; intro v572 a572 wx572 hnil572 H572
                    obtain ⟨Ar572, cr572, hvr572, hRr572, hmr572⟩ := row_shape (v := v572) H572.sep (by repeat (first | exact Mh | apply Mt))
                    subst hvr572
                    refine hfinA H572.sep ?_
                    refine hgo 11 rfl (by kernel_rfl) ?_
                    refine st_append rfl z_slice30 z_notint30 rfl rfl (fun _ => (by repeat (first | exact Uh | apply Ut))) (fun w hs => Src.slice ((rd_blkA (by repeat (first | exact Mh | apply Mt))) w hs) wx.len (Pool.wait_cell _)) (by unfold maxLen at *; omega) (by omega) rfl rfl rfl H572 ?_
                    clear H572; intro v573 a573 wx573 hnil573 H573
                    obtain ⟨Ar573, cr573, hvr573, hRr573, hmr573⟩ := row_shape (v := v573) H573.sep (by repeat (first | exact Mh | apply Mt))
                    subst hvr573
                    refine hfinA H573.sep ?_
                    refine hgo 18 rfl (by kernel_rfl) ?_
                    refine st_append rfl z_slice30 z_notint30 rfl rfl (fun _ => (by repeat (first | exact Uh | apply Ut))) (fun w hs => Src.slice ((Pool.rds hLL (rd_row (by repeat (first | exact Mh | apply Mt))) (((Pool.pos (Pool.left size L) x : Nat) : Int).toNat) c3 hcap3) w hs) hsB (Pool.wc_cell _)) (by unfold maxLen at *; omega) (by omega) rfl rfl rfl H573 ?_
                    clear H573; intro v574 a574 wx574 hnil574 H574
                    obtain ⟨ArW, crW, hvrW, hRrW, hmrW⟩ := row_shape (v := v574) H574.sep (by repeat (first | exact Mh | apply Mt))
                    subst hvrW
                    refine hfinA H574.sep ?_
                    refine htake 19 rfl (by kernel_rfl) (y_nilCheck rfl rfl) rfl rfl rfl (fun _ h => (h.sub (by first | exact S0 | exact S1 | repeat (first | exact S1 | exact S0 | apply S2 | apply S3)))) H574 ?_
                    clear H574; intro a575 H575
                    refine htake 20 rfl (by kernel_rfl) (y_fieldB rfl z_field63_1 rfl (by first | (simp only [Nat.zero_add, Nat.add_zero, Nat.reduceAdd]; rfl) | rfl)) rfl rfl rfl (fun _ h => (h.sub (by first | exact S0 | exact S1 | repeat (first | exact S1 | exact S0 | apply S2 | apply S3)))) H575 ?_
                    clear H575; intro a576 H576
                    refine hgo 21 rfl (by kernel_rfl) ?_
                    refine st_store1N rfl z_size30 rfl rfl rfl (by repeat (first | exact Uh | apply Ut)) q_len_c2 q_set_c2_1 (by decide) rfl rfl H576 ?_
                    clear H576; intro wx577 H577
                    refine hfinA H577.sep ?_
                    refine hdone (by kernel_rfl) ?_
                    refine cut_n ?_
                    have hsx := H577.sep.sub (l' := [It.row _ 76 (.slice ArW _ crW) _ _, It.blk bp 63 _, It.blk b168 38 _, It.blk b2 38 _]) (by repeat (first | exact S1 | exact S0 | apply S2 | apply S3))
                    simp only [List.nil_append, Int.toNat_natCast, Nat.zero_add, Pool.ins_cells, Pool.ins_count] at hsx
                    exact ⟨_, H577.fr.weak ⟨rfl, rfl, rfl, trivial⟩, hsx⟩
              · skip
                refine plain (y_loadB rfl z_agg30 rfl (by repeat (first | exact Mh | apply Mt)) q_ix_c2_1) rfl rfl rfl H229 ?_
                clear H229; intro a578 H578
                refine hfinA H578.sep ?_
                refine htake 17 rfl (by kernel_rfl) (y_slS_lo rfl Try.underlying30 z_size38 rfl rfl (by omega) (by omega)) rfl rfl rfl (fun _ h => (h.sub (by first | exact S0 | exact S1 | repeat (first | exact S1 | exact S0 | apply S2 | apply S3)))) H578 ?_
                clear H578; intro a579 H579
                refine hgo3 1 5 10 rfl rfl rfl (by kernel_rfl) ?_ ?_ ?_
                · skip
                  refine st_buildSlice rfl Try.underlying30 z_size38 z_zero38 rfl rfl rfl (show _ = some ([] : List Value) from rfl) rfl rfl rfl H579 ?_
                  clear H579; intro b580 a580 wx580 H580
                  refine hfinA H580.sep ?_
                  refine hgo2 5 10 rfl rfl (by kernel_rfl) ?_ ?_
                  · skip
                    refine plain (y_loadB rfl z_agg30 rfl (by repeat (first | exact Mh | apply Mt)) q_ix_c2_1) rfl rfl rfl H580 ?_
                    clear H580; intro a581 H581
                    refine hfinA H581.sep ?_
                    refine htake 7 rfl (by kernel_rfl) (y_slS_hi rfl Try.underlying30 z_size38 rfl rfl (by omega) (by omega) (by omega)) rfl rfl rfl (fun _ h => (h.sub (by first | exact S0 | exact S1 | repeat (first | exact S1 | exact S0 | apply S2 | apply S3)))) H581 ?_
                    clear H581; intro a582 H582
                    refine hgo2 8 10 rfl rfl (by kernel_rfl) ?_ ?_
                    · skip
                      replace H582 := H582.asRow (b := b580) (size := 76) (m := 0) (by repeat (first | exact Uh | apply Ut)) rfl (by unfold maxLen; omega)
                      refine st_append rfl z_slice30 z_notint30 rfl rfl (fun _ => (by repeat (first | exact Uh | apply Ut))) (fun w hs => Src.slice ((Pool.rdp hLL (rd_row (by repeat (first | exact Mh | apply Mt))) (((Pool.pos (Pool.left size L) x : Nat) : Int).toNat)) w hs) hsA (Pool.wc_cell _)) (by unfold maxLen at *; omega) (by omega) rfl rfl rfl H582 ?_
                      clear H582; intro v583 a583 wx583 hnil583 H583
                      obtain ⟨Ar583, cr583, hvr583, hRr583, hmr583⟩ := row_shape (v := v583) H583.sep (by repeat (first | exact Mh | apply Mt))
                      subst hvr583
                      refine hfinA H583.sep ?_
                      refine hgo 10 rfl (by kernel_rfl) ?_
                      refine st_buildSlice rfl Try.underlying30 z_size38 z_zero38 rfl rfl rfl (lay_agg (agg_cells _) wx.len rfl) rfl rfl rfl H583 ?_
                      clear H583; intro b584 a584 wx584 H584
                      refine hfinA H584.sep ?_
                      refine hgo 11 rfl (by kernel_rfl) ?_
                      refine st_append rfl z_slice30 z_notint30 rfl rfl (fun _ => (by repeat (first | exact Uh | apply Ut))) (fun w hs => Src.slice ((rd_blkA (by repeat (first | exact Mh | apply Mt))) w hs) wx.len (Pool.wait_cell _)) (by unfold maxLen at *; omega) (by omega) rfl rfl rfl H584 ?_
                      clear H584; intro v585 a585 wx585 hnil585 H585
                      obtain ⟨Ar585, cr585, hvr585, hRr585, hmr585⟩ := row_shape (v := v585) H585.sep (by repeat (first | exact Mh | apply Mt))
                      subst hvr585
                      refine hfinA H585.sep ?_
                      refine hgo 18 rfl (by kernel_rfl) ?_
                      refine st_append rfl z_slice30 z_notint30 rfl rfl (fun _ => (by repeat (first | exact Uh | apply Ut))) (fun w hs => Src.slice ((Pool.rds hLL (rd_row (by repeat (first | exact Mh | apply Mt))) (((Pool.pos (Pool.left size L) x : Nat) : Int).toNat) c3 hcap3) w hs) hsB (Pool.wc_cell _)) (by unfold maxLen at *; omega) (by omega) rfl rfl rfl H585 ?_
                      clear H585; intro v586 a586 wx586 hnil586 H586
                      obtain ⟨ArW, crW, hvrW, hRrW, hmrW⟩ := row_shape (v := v586) H586.sep (by repeat (first | exact Mh | apply Mt))
                      subst hvrW
                      refine hfinA H586.sep ?_
                      refine htake 19 rfl (by kernel_rfl) (y_nilCheck rfl rfl) rfl rfl rfl (fun _ h => (h.sub (by first | exact S0 | exact S1 | repeat (first | exact S1 | exact S0 | apply S2 | apply S3)))) H586 ?_
                      clear H586; intro a587 H587
                      refine htake 20 rfl (by kernel_rfl) (y_fieldB rfl z_field63_1 rfl (by first | (simp only [Nat.zero_add, Nat.add_zero, Nat.reduceAdd]; rfl) | rfl)) rfl rfl rfl (fun _ h => (h.sub (by first | exact S0 | exact S1 | repeat (first | exact S1 | exact S0 | apply S2 | apply S3)))) H587 ?_
                      clear H587; intro a588 H588
                      refine hgo 21 rfl (by kernel_rfl) ?_
                      refine st_store1N rfl z_size30 rfl rfl rfl (by repeat (first | exact Uh | apply Ut)) q_len_c2 q_set_c2_1 (by decide) rfl rfl H588 ?_
                      clear H588; intro wx589 H589
                      refine hfinA H589.sep ?_
                      refine hdone (by kernel_rfl) ?_
                      refine cut_n ?_
                      have hsx := H589.sep.sub (l' := [It.row _ 76 (.slice ArW _ crW) _ _, It.blk bp 63 _, It.blk b168 38 _, It.blk b2 38 _]) (by repeat (first | exact S1 | exact S0 | apply S2 | apply S3))
                      simp only [List.nil_append, Int.toNat_natCast, Nat.zero_add, Pool.ins_cells, Pool.ins_count] at hsx
                      exact ⟨_, H589.fr.weak ⟨rfl, rfl, rfl, trivial⟩, hsx⟩
                    · skip
                      refine st_buildSlice rfl Try.underlying30 z_size38 z_zero38 rfl rfl rfl (lay_agg (agg_cells _) wx.len rfl) rfl rfl rfl H582 ?_
                      clear H582; intro b590 a590 wx590 H590
                      refine hfinA H590.sep ?_
                      refine hgo 8 rfl (by kernel_rfl) ?_
                      replace H590 := H590.asRow (b := b580) (size := 76) (m := 0) (by repeat (first | exact Uh | apply Ut)) rfl (by unfold maxLen; omega)
                      refine st_append rfl z_slice30 z_notint30 rfl rfl (fun _ => (by repeat (first | exact Uh | apply Ut))) (fun w hs => Src.slice ((Pool.rdp hLL (rd_row (by repeat (first | exact Mh | apply Mt))) (((Pool.pos (Pool.left size L) x : Nat) : Int).toNat)) w hs) hsA (Pool.wc_cell _)) (by unfold maxLen at *; omega) (by omega) rfl rfl rfl H590 ?_
                      clear H590; intro v591 a591 wx591 hnil591 H591
                      obtain ⟨Ar591, cr591, hvr591, hRr591, hmr591⟩ := row_shape (v := v591) H591.sep (by repeat (first | exact Mh | apply Mt))
                      subst hvr591
                      refine hfinA H591.sep ?_
                      refine hgo 11 rfl (by kernel_rfl) ?_
                      refine st_append rfl z_slice30 z_notint30 rfl rfl (fun _ => (by repeat (first | exact Uh | apply Ut))) (fun w hs => Src.slice ((rd_blkA (by repeat (first | exact Mh | apply Mt))) w hs) wx.len (Pool.wait_cell _)) (by unfold maxLen at *; omega) (by omega) rfl rfl rfl H591 ?_
                      clear H591; intro v592 a592 wx592 hnil592 H592
                      obtain ⟨Ar592, cr592, hvr592, hRr592, hmr592⟩ := row_shape (v := v592) H592.sep (by repeat (first | exact Mh | apply Mt))
                      subst hvr592
                      refine hfinA H592.sep ?_
                      refine hgo 18 rfl (by kernel_rfl) ?_
                      refine st_append rfl z_slice30 z_notint30 rfl rfl (fun _ => (by repeat (first | exact Uh | apply Ut))) (fun w hs => Src.slice ((Pool.rds hLL (rd_row (by repeat (first | exact Mh | apply Mt))) (((Pool.pos (Pool.left size L) x : Nat) : Int).toNat) c3 hcap3) w hs) hsB (Pool.wc_cell _)) (by unfold maxLen at *; omega) (by omega) rfl rfl rfl H592 ?_
                      clear H592; intro v593 a593 wx593 hnil593 H593
                      obtain ⟨ArW, crW, hvrW, hRrW, hmrW⟩ := row_shape (v := v593) H593.sep (by repeat (first | exact Mh | apply Mt))
                      subst hvrW
                      refine hfinA H593.sep ?_
                      refine htake 19 rfl (by kernel_rfl) (y_nilCheck rfl rfl) rfl rfl rfl (fun _ h => (h.sub (by first | exact S0 | exact S1 | repeat (first | exact S1 | exact S0 | apply S2 | apply S3)))) H593 ?_
                      clear H593; intro a594 H594
                      refine htake 20 rfl (by kernel_rfl) (y_fieldB rfl z_field63_1 rfl (by first | (simp only [Nat.zero_add, Nat.add_zero, Nat.reduceAdd]; rfl) | rfl)) rfl rfl rfl (fun _ h => (h.sub (by first | exact S0 | exact S1 | repeat (first | exact S1 | exact S0 | apply S2 | apply S3)))) H594 ?_
                      clear H594; intro a595 H595
                      refine hgo 21 rfl (by kernel_rfl) ?_
                      refine st_store1N rfl z_size30 rfl rfl rfl (by repeat (first | exact Uh | apply Ut)) q_len_c2 q_set_c2_1 (by decide) rfl rfl H595 ?_
                      clear H595; intro wx596 H596
                      refine hfinA H596.sep ?_
                      refine hdone (by kernel_rfl) ?_
                      refine cut_n ?_
                      have hsx := H596.sep.sub (l' := [It.row _ 76 (.slice ArW _ crW) _ _, It.blk bp 63 _, It.blk b168 38 _, It.blk b2 38 _]) (by repeat (first | exact S1 | exact S0 | apply S2 | apply S3))
                      simp only [List.nil_append, Int.toNat_natCast, Nat.zero_add, Pool.ins_cells, Pool.ins_count] at hsx
                      exact ⟨_, H596.fr.weak ⟨rfl, rfl, rfl, trivial⟩, hsx⟩
                  · skip
                    refine st_buildSlice rfl Try.underlying30 z_size38 z_zero38 rfl rfl rfl (lay_agg (agg_cells _) wx.len rfl) rfl rfl rfl H580 ?_
                    clear H580; intro b597 a597 wx597 H597
                    refine hfinA H597.sep ?_
                    refine hgo 5 rfl (by kernel_rfl) ?_
                    refine plain (y_loadB rfl z_agg30 rfl (by repeat (first | exact Mh | apply Mt)) q_ix_c2_1) rfl rfl rfl H597 ?_
                    clear H597; intro a598 H598
                    refine hfinA H598.sep ?_
                    refine htake 7 rfl (by kernel_rfl) (y_slS_hi rfl Try.underlying30 z_size38 rfl rfl (by omega) (by omega) (by omega)) rfl rfl rfl (fun _ h => (h.sub (by first | exact S0 | exact S1 | repeat (first | exact S1 | exact S0 | apply S2 | apply S3)))) H598 ?_
                    clear H598; intro a599 H599
                    refine hgo 8 rfl (by kernel_rfl) ?_
                    replace H599 := H599.asRow (b := b580) (size := 76) (m := 0) (by repeat (first | exact Uh | apply Ut)) rfl (by unfold maxLen; omega)
                    refine st_append rfl z_slice30 z_notint30 rfl rfl (fun _ => (by repeat (first | exact Uh | apply Ut))) (fun w hs => Src.slice ((Pool.rdp hLL (rd_row (by repeat (first | exact Mh | apply Mt))) (((Pool.pos (Pool.left size L) x : Nat) : Int).toNat)) w hs) hsA (Pool.wc_cell _)) (by unfold maxLen at *; omega) (by omega) rfl rfl rfl H599 ?_
                    clear H599; intro v600 a600 wx600 hnil600 H600
                    obtain ⟨Ar600, cr600, hvr600, hRr600, hmr600⟩ := row_shape (v := v600) H600.sep (by repeat (first | exact Mh | apply Mt))
                    subst hvr600
                    refine hfinA H600.sep ?_
                    refine hgo 11 rfl (by kernel_rfl) ?_
                    refine st_append rfl z_slice30 z_notint30 rfl rfl (fun _ => (by repeat (first | exact Uh | apply Ut))) (fun w hs => Src.slice ((rd_blkA (by repeat (first | exact Mh | apply Mt))) w hs) wx.len (Pool.wait_cell _)) (by unfold maxLen at *; omega) (by omega) rfl rfl rfl H600 ?_
                    clear H600; intro v601 a601 wx601 hnil601 H601
                    obtain ⟨Ar601, cr601, hvr601, hRr601, hmr601⟩ := row_shape (v := v601) H601.sep (by repeat (first | exact Mh | apply Mt))
                    subst hvr601
                    refine hfinA H601.sep ?_
                    refine hgo 18 rfl (by kernel_rfl) ?_
                    refine st_append rfl z_slice30 z_notint30 rfl rfl (fun _ => (by repeat (first | exact Uh | apply Ut))) (fun w hs => Src.slice ((Pool.rds hLL (rd_row (by repeat (first | exact Mh | apply Mt))) (((Pool.pos (Pool.left size L) x : Nat) : Int).toNat) c3 hcap3) w hs) hsB (Pool.wc_cell _)) (by unfold maxLen at *; omega) (by omega) rfl rfl rfl H601 ?_
                    clear H601; intro v602 a602 wx602 hnil602 H602
                    obtain ⟨ArW, crW, hvrW, hRrW, hmrW⟩ := row_shape (v := v602) H602.sep (by repeat (first | exact Mh | apply Mt))
                    subst hvrW
                    refine hfinA H602.sep ?_
                    refine htake 19 rfl (by kernel_rfl) (y_nilCheck rfl rfl) rfl rfl rfl (fun _ h => (h.sub (by first | exact S0 | exact S1 | repeat (first | exact S1 | exact S0 | apply S2 | apply S3)))) H602 ?_
                    clear H602; intro a603 H603
                    refine htake 20 rfl (by kernel_rfl) (y_fieldB rfl z_field63_1 rfl (by first | (simp only [Nat.zero_add, Nat.add_zero, Nat.reduceAdd]; rfl) | rfl)) rfl rfl rfl (fun _ h => (h.sub (by first | exact S0 | exact S1 | repeat (first | exact S1 | exact S0 | apply S2 | apply S3)))) H603 ?_
                    clear H603; intro a604 H604
                    refine hgo 21 rfl (by kernel_rfl) ?_
                    refine st_store1N rfl z_size30 rfl rfl rfl (by repeat (first | exact Uh | apply Ut)) q_len_c2 q_set_c2_1 (by decide) rfl rfl H604 ?_
                    clear H604; intro wx605 H605
                    refine hfinA H605.sep ?_
                    refine hdone (by kernel_rfl) ?_
                    refine cut_n ?_
                    have hsx := H605.sep.sub (l' := [It.row _ 76 (.slice ArW _ crW) _ _, It.blk bp 63 _, It.blk b168 38 _, It.blk b2 38 _]) (by repeat (first | exact S1 | exact S0 | apply S2 | apply S3))
                    simp only [List.nil_append, Int.toNat_natCast, Nat.zero_add, Pool.ins_cells, Pool.ins_count] at hsx
                    exact ⟨_, H605.fr.weak ⟨rfl, rfl, rfl, trivial⟩, hsx⟩
                · skip
                  refine plain (y_loadB rfl z_agg30 rfl (by repeat (first | exact Mh | apply Mt)) q_ix_c2_1) rfl rfl rfl H579 ?_
                  clear H579; intro a606 H606
                  refine hfinA H606.sep ?_
                  refine htake 7 rfl (by kernel_rfl) (y_slS_hi rfl Try.underlying30 z_size38 rfl rfl (by omega) (by omega) (by omega)) rfl rfl rfl (fun _ h => (h.sub (by first | exact S0 | exact S1 | repeat (first | exact S1 | exact S0 | apply S2 | apply S3)))) H606 ?_
                  clear H606; intro a607 H607
                  refine hgo2 1 10 rfl rfl (by kernel_rfl) ?_ ?_
                  · skip
                    refine st_buildSlice rfl Try.underlying30 z_size38 z_zero38 rfl rfl rfl (show _ = some ([] : List Value) from rfl) rfl rfl rfl H607 ?_
                    clear H607; intro b608 a608 wx608 H608
                    refine hfinA H608.sep ?_
                    refine hgo2 8 10 rfl rfl (by kernel_rfl) ?_ ?_
                    · skip
                      replace H608 := H608.asRow (b := b608) (size := 76) (m := 0) (by repeat (first | exact Uh | apply Ut)) rfl (by unfold maxLen; omega)
                      refine st_append rfl z_slice30 z_notint30 rfl rfl (fun _ => (by repeat (first | exact Uh | apply Ut))) (fun w hs => Src.slice ((Pool.rdp hLL (rd_row (by repeat (first | exact Mh | apply Mt))) (((Pool.pos (Pool.left size L) x : Nat) : Int).toNat)) w hs) hsA (Pool.wc_cell _)) (by unfold maxLen at *; omega) (by omega) rfl rfl rfl H608 ?_
                      clear H608; intro v609 a609 wx609 hnil609 H609
                      obtain ⟨Ar609, cr609, hvr609, hRr609, hmr609⟩ := row_shape (v := v609) H609.sep (by repeat (first | exact Mh | apply Mt))
                      subst hvr609
                      refine hfinA H609.sep ?_
                      refine hgo 10 rfl (by kernel_rfl) ?_
                      refine st_buildSlice rfl Try.underlying30 z_size38 z_zero38 rfl rfl rfl (lay_agg (agg_cells _) wx.len rfl) rfl rfl rfl H609 ?_
                      clear H609; intro b610 a610 wx610 H610
                      refine hfinA H610.sep ?_
                      refine hgo 11 rfl (by kernel_rfl) ?_
                      refine st_append rfl z_slice30 z_notint30 rfl rfl (fun _ => (by repeat (first | exact Uh | apply Ut))) (fun w hs => Src.slice ((rd_blkA (by repeat (first | exact Mh | apply Mt))) w hs) wx.len (Pool.wait_cell _)) (by unfold maxLen at *; omega) (by omega) rfl rfl rfl H610 ?_
                      clear H610; intro v611 a611 wx611 hnil611 H611
                      obtain ⟨Ar611, cr611, hvr611, hRr611, hmr611⟩ := row_shape (v := v611) H611.sep (by repeat (first | exact Mh | apply Mt))
                      subst hvr611
                      refine hfinA H611.sep ?_
                      refine hgo 18 rfl (by kernel_rfl) ?_
                      refine st_append rfl z_slice30 z_notint30 rfl rfl (fun _ => (by repeat (first | exact Uh | apply Ut))) (fun w hs => Src.slice ((Pool.rds hLL (rd_row (by repeat (first | exact Mh | apply Mt))) (((Pool.pos (Pool.left size L) x : Nat) : Int).toNat) c3 hcap3) w hs) hsB (Pool.wc_cell _)) (by unfold maxLen at *; omega) (by omega) rfl rfl rfl H611 ?_
                      clear H611; intro v612 a612 wx612 hnil612 H612
                      obtain ⟨ArW, crW, hvrW, hRrW, hmrW⟩ := row_shape (v := v612) H612.sep (by repeat (first | exact Mh | apply Mt))
                      subst hvrW
                      refine hfinA H612.sep ?_
                      refine htake 19 rfl (by kernel_rfl) (y_nilCheck rfl rfl) rfl rfl rfl (fun _ h => (h.sub (by first | exact S0 | exact S1 | repeat (first | exact S1 | exact S0 | apply S2 | apply S3)))) H612 ?_
                      clear H612; intro a613 H613
                      refine htake 20 rfl (by kernel_rfl) (y_fieldB rfl z_field63_1 rfl (by first | (simp only [Nat.zero_add, Nat.add_zero, Nat.reduceAdd]; rfl) | rfl)) rfl rfl rfl (fun _ h => (h.sub (by first | exact S0 | exact S1 | repeat (first | exact S1 | exact S0 | apply S2 | apply S3)))) H613 ?_
                      clear H613; intro a614 H614
                      refine hgo 21 rfl (by kernel_rfl) ?_
                      refine st_store1N rfl z_size30 rfl rfl rfl (by repeat (first | exact Uh | apply Ut)) q_len_c2 q_set_c2_1 (by decide) rfl rfl H614 ?_
                      clear H614; intro wx615 H615
                      refine hfinA H615.sep ?_
                      refine hdone (by kernel_rfl) ?_
                      refine cut_n ?_
                      have hsx := H615.sep.sub (l' := [It.row _ 76 (.slice ArW _ crW) _ _, It.blk bp 63 _, It.blk b168 38 _, It.blk b2 38 _]) (by repeat (first | exact S1 | exact S0 | apply S2 | apply S3))
                      simp only [List.nil_append, Int.toNat_natCast, Nat.zero_add, Pool.ins_cells, Pool.ins_count] at hsx
                      exact ⟨_, H615.fr.weak ⟨rfl, rfl, rfl, trivial⟩, hsx⟩
                    · skip
                      refine st_buildSlice rfl Try.underlying30 z_size38 z_zero38 rfl rfl rfl (lay_agg (agg_cells _) wx.len rfl) rfl rfl rfl H608 ?_
                      clear H608; intro b616 a616 wx616 H616
                      refine hfinA H616.sep ?_
                      refine hgo 8 rfl (by kernel_rfl) ?_
                      replace H616 := H616.asRow (b := b608) (size := 76) (m := 0) (by repeat (first | exact Uh | apply Ut)) rfl (by unfold maxLen; omega)
                      refine st_append rfl z_slice30 z_notint30 rfl rfl (fun _ => (by repeat (first | exact Uh | apply Ut))) (fun w hs => Src.slice ((Pool.rdp hLL (rd_row (by repeat (first | exact Mh | apply Mt))) (((Pool.pos (Pool.left size L) x : Nat) : Int).toNat)) w hs) hsA (Pool.wc_cell _)) (by unfold maxLen at *; omega) (by omega) rfl rfl rfl H616 ?_
                      clear H616; intro v617 a617 wx617 hnil617 H617
                      obtain ⟨Ar617, cr617, hvr617, hRr617, hmr617⟩ := row_shape (v := v617) H617.sep (by repeat (first | exact Mh | apply Mt))
                      subst hvr617
                      refine hfinA H617.sep ?_
                      refine hgo 11 rfl (by kernel_rfl) ?_
                      refine st_append rfl z_slice30 z_notint30 rfl rfl (fun _ => (by repeat (first | exact Uh | apply Ut))) (fun w hs => Src.slice ((rd_blkA (by repeat (first | exact Mh | apply Mt))) w hs) wx.len (Pool.wait_cell _)) (by unfold maxLen at *; omega) (by omega) rfl rfl rfl H617 ?_
                      clear H617; intro v618 a618 wx618 hnil618 H618
                      obtain ⟨Ar618, cr618, hvr618, hRr618, hmr618⟩ := row_shape (v := v618) H618.sep (by repeat (first | exact Mh | apply Mt))
                      subst hvr618
                      refine hfinA H618.sep ?_
                      refine hgo 18 rfl (by kernel_rfl) ?_
                      refine st_append rfl z_slice30 z_notint30 rfl rfl (fun _ => (by repeat (first | exact Uh | apply Ut))) (fun w hs => Src.slice ((Pool.rds hLL (rd_row (by repeat (first | exact Mh | apply Mt))) (((Pool.pos (Pool.left size L) x : Nat) : Int).toNat) c3 hcap3) w hs) hsB (Pool.wc_cell _)) (by unfold maxLen at *; omega) (by omega) rfl rfl rfl H618 ?_
                      clear H618; intro v619 a619 wx619 hnil619 H619
                      obtain ⟨ArW, crW, hvrW, hRrW, hmrW⟩ := row_shape (v := v619) H619.sep (by repeat (first | exact Mh | apply Mt))
                      subst hvrW
                      refine hfinA H619.sep ?_
                      refine htake 19 rfl (by kernel_rfl) (y_nilCheck rfl rfl) rfl rfl rfl (fun _ h => (h.sub (by first | exact S0 | exact S1 | repeat (first | exact S1 | exact S0 | apply S2 | apply S3)))) H619 ?_
                      clear H619; intro a620 H620
                      refine htake 20 rfl (by kernel_rfl) (y_fieldB rfl z_field63_1 rfl (by first | (simp only [Nat.zero_add, Nat.add_zero, Nat.reduceAdd]; rfl) | rfl)) rfl rfl rfl (fun _ h => (h.sub (by first | exact S0 | exact S1 | repeat (first | exact S1 | exact S0 | apply S2 | apply S3)))) H620 ?_
                      clear H620; intro a621 H621
                      refine hgo 21 rfl (by kernel_rfl) ?_
                      refine st_store1N rfl z_size30 rfl rfl rfl (by repeat (first | exact Uh | apply Ut)) q_len_c2 q_set_c2_1 (by decide) rfl rfl H621 ?_
                      clear H621; intro wx622 H622
                      refine hfinA H622.sep ?_
                      refine hdone (by kernel_rfl) ?_
                      refine cut_n ?_
                      have hsx := H622.sep.sub (l' := [It.row _ 76 (.slice ArW _ crW) _ _, It.blk bp 63 _, It.blk b168 38 _, It.blk b2 38 _]) (by repeat (first | exact S1 | exact S0 | apply S2 | apply S3))
                      simp only [List.nil_append, Int.toNat_natCast, Nat.zero_add, Pool.ins_cells, Pool.ins_count] at hsx
                      exact ⟨_, H622.fr.weak ⟨rfl, rfl, rfl, trivial⟩, hsx⟩
                  · skip
                    refine st_buildSlice rfl Try.underlying30 z_size38 z_zero38 rfl rfl rfl (lay_agg (agg_cells _) wx.len rfl) rfl rfl rfl H607 ?_
                    clear H607; intro b623 a623 wx623 H623
                    refine hfinA H623.sep ?_
                    refine hgo 1 rfl (by kernel_rfl) ?_
                    refine st_buildSlice rfl Try.underlying30 z_size38 z_zero38 rfl rfl rfl (show _ = some ([] : List Value) from rfl) rfl rfl rfl H623 ?_
                    clear H623; intro b624 a624 wx624 H624
                    refine hfinA H624.sep ?_
                    refine hgo 8 rfl (by kernel_rfl) ?_
                    replace H624 := H624.asRow (b := b624) (size := 76) (m := 0) (by repeat (first | exact Uh | apply Ut)) rfl (by unfold maxLen; omega)
                    refine st_append rfl z_slice30 z_notint30 rfl rfl (fun _ => (by repeat (first | exact Uh | apply Ut))) (fun w hs => Src.slice ((Pool.rdp hLL (rd_row (by repeat (first | exact Mh | apply Mt))) (((Pool.pos (Pool.left size L) x : Nat) : Int).toNat)) w hs) hsA (Pool.wc_cell _)) (by unfold maxLen at *; omega) (by omega) rfl rfl rfl H624 ?_
                    clear H624; intro v625 a625 wx625 hnil625 H625
                    obtain ⟨Ar625, cr625, hvr625, hRr625, hmr625⟩ := row_shape (v := v625) H625.sep (by repeat (first | exact Mh | apply Mt))
                    subst hvr625
                    refine hfinA H625.sep ?_
                    refine hgo 11 rfl (by kernel_rfl) ?_
                    refine st_append rfl z_slice30 z_notint30 rfl rfl (fun _ => (by repeat (first | exact Uh | apply Ut))) (fun w hs => Src.slice ((rd_blkA (by repeat (first | exact Mh | apply Mt))) w hs) wx.len (Pool.wait_cell _)) (by unfold maxLen at *; omega) (by omega) rfl rfl rfl H625 ?_
                    clear H625; intro v626 a626 wx626 hnil626 H626
                    obtain ⟨Ar626, cr626, hvr626, hRr626, hmr626⟩ := row_shape (v := v626) H626.sep (by repeat (first | exact Mh | apply Mt))
                    subst hvr626
                    refine hfinA H626.sep ?_
                    refine hgo 18 rfl (by kernel_rfl) ?_
                    refine st_append rfl z_slice30 z_notint30 rfl rfl (fun _ => (by repeat (first | exact Uh | apply Ut))) (fun w hs => Src.slice ((Pool.rds hLL (rd_row (by repeat (first | exact Mh | apply Mt))) (((Pool.pos (Pool.left size L) x : Nat) : Int).toNat) c3 hcap3) w hs) hsB (Pool.wc_cell _)) (by unfold maxLen at *; omega) (by omega) rfl rfl rfl H626 ?_
                    clear H626; intro v627 a627 wx627 hnil627 H627
                    obtain ⟨ArW, crW, hvrW, hRrW, hmrW⟩ := row_shape (v := v627) H627.sep (by repeat (first | exact Mh | apply Mt))
                    subst hvrW
                    refine hfinA H627.sep ?_
                    refine htake 19 rfl (by kernel_rfl) (y_nilCheck rfl rfl) rfl rfl rfl (fun _ h => (h.sub (by first | exact S0 | exact S1 | repeat (first | exact S1 | exact S0 | apply S2 | apply S3)))) H627 ?_
                    clear H627; intro a628 H628
                    refine htake 20 rfl (by kernel_rfl) (y_fieldB rfl z_field63_1 rfl (by first | (simp only [Nat.zero_add, Nat.add_zero, Nat.reduceAdd]; rfl) | rfl)) rfl rfl rfl (fun _ h => (h.sub (by first | exact S0 | exact S1 | repeat (first | exact S1 | exact S0 | apply S2 | apply S3)))) H628 ?_
                    clear H628; intro a629 H629
                    refine hgo 21 rfl (by kernel_rfl) ?_
                    refine st_store1N rfl z_size30 rfl rfl rfl (by repeat (first | exact Uh | apply Ut)) q_len_c2 q_set_c2_1 (by decide) rfl rfl H629 ?_
                    clear H629; intro wx630 H630
                    refine hfinA H630.sep ?_
                    refine hdone (by kernel_rfl) ?_
                    refine cut_n ?_
                    have hsx := H630.sep.sub (l' := [It.row _ 76 (.slice ArW _ crW) _ _, It.blk bp 63 _, It.blk b168 38 _, It.blk b2 38 _]) (by repeat (first | exact S1 | exact S0 | apply S2 | apply S3))
                    simp only [List.nil_append, Int.toNat_natCast, Nat.zero_add, Pool.ins_cells, Pool.ins_count] at hsx
                    exact ⟨_, H630.fr.weak ⟨rfl, rfl, rfl, trivial⟩, hsx⟩
                · skip
                  refine st_buildSlice rfl Try.underlying30 z_size38 z_zero38 rfl rfl rfl (lay_agg (agg_cells _) wx.len rfl) rfl rfl rfl H579 ?_
                  clear H579; intro b631 a631 wx631 H631
                  refine hfinA H631.sep ?_
                  refine hgo2 1 5 rfl rfl (by kernel_rfl) ?_ ?_
                  · skip
                    refine st_buildSlice rfl Try.underlying30 z_size38 z_zero38 rfl rfl rfl (show _ = some ([] : List Value) from rfl) rfl rfl rfl H631 ?_
                    clear H631; intro b632 a632 wx632 H632
                    refine hfinA H632.sep ?_
                    refine hgo 5 rfl (by kernel_rfl) ?_
                    refine plain (y_loadB rfl z_agg30 rfl (by repeat (first | exact Mh | apply Mt)) q_ix_c2_1) rfl rfl rfl H632 ?_
                    clear H632; intro a633 H633
                    refine hfinA H633.sep ?_
                    refine htake 7 rfl (by kernel_rfl) (y_slS_hi rfl Try.underlying30 z_size38 rfl rfl (by omega) (by omega) (by omega)) rfl rfl rfl (fun _ h => (h.sub (by first | exact S0 | exact S1 | repeat (first | exact S1 | exact S0 | apply S2 | apply S3)))) H633 ?_
                    clear H633; intro a634 H634
                    refine hgo 8 rfl (by kernel_rfl) ?_
                    replace H634 := H634.asRow (b := b632) (size := 76) (m := 0) (by repeat (first | exact Uh | apply Ut)) rfl (by unfold maxLen; omega)
                    refine st_append rfl z_slice30 z_notint30 rfl rfl (fun _ => (by repeat (first | exact Uh | apply Ut))) (fun w hs => Src.slice ((Pool.rdp hLL (rd_row (by repeat (first | exact Mh | apply Mt))) (((Pool.pos (Pool.left size L) x : Nat) : Int).toNat)) w hs) hsA (Pool.wc_cell _)) (by unfold maxLen at *; omega) (by omega) rfl rfl rfl H634 ?_
                    clear H634; intro v635 a635 wx635 hnil635 H635
                    obtain ⟨Ar635, cr635, hvr635, hRr635, hmr635⟩ := row_shape (v := v635) H635.sep (by repeat (first | exact Mh | apply Mt))
                    subst hvr635
                    refine hfinA H635.sep ?_
                    refine hgo 11 rfl (by kernel_rfl) ?_
                    refine st_append rfl z_slice30 z_notint30 rfl rfl (fun _ => (by repeat (first | exact Uh | apply Ut))) (fun w hs => Src.slice ((rd_blkA (by repeat (first | exact Mh | apply Mt))) w hs) wx.len (Pool.wait_cell _)) (by unfold maxLen at *; omega) (by omega) rfl rfl rfl H635 ?_
                    clear H635; intro v636 a636 wx636 hnil636 H636
                    obtain ⟨Ar636, cr636, hvr636, hRr636, hmr636⟩ := row_shape (v := v636) H636.sep (by repeat (first | exact Mh | apply Mt))
                    subst hvr636
                    refine hfinA H636.sep ?_
                    refine hgo 18 rfl (by kernel_rfl) ?_
                    refine st_append rfl z_slice30 z_notint30 rfl rfl (fun _ => (by repeat (first | exact Uh | apply Ut))) (fun w hs => Src.slice ((Pool.rds hLL (rd_row (by repeat (first | exact Mh | apply Mt))) (((Pool.pos (Pool.left size L) x : Nat) : Int).toNat) c3 hcap3) w hs) hsB (Pool.wc_cell _)) (by unfold maxLen at *; omega) (by omega) rfl rfl rfl H636 ?_
                    clear H636; intro v637 a637 wx637 hnil637 H637
                    obtain ⟨ArW, crW, hvrW, hRrW, hmrW⟩ := row_shape (v := v637) H637.sep (by repeat (first | exact Mh | apply Mt))
                    subst hvrW
                    refine hfinA H637.sep ?_
                    refine htake 19 rfl (by kernel_rfl) (y_nilCheck rfl rfl) rfl rfl rfl (fun _ h => (h.sub (by first | exact S0 | exact S1 | repeat (first | exact S1 | exact S0 | apply S2 | apply S3)))) H637 ?_
                    clear H637; intro a638 H638
                    refine htake 20 rfl (by kernel_rfl) (y_fieldB rfl z_field63_1 rfl (by first | (simp only [Nat.zero_add, Nat.add_zero, Nat.reduceAdd]; rfl) | rfl)) rfl rfl rfl (fun _ h => (h.sub (by first | exact S0 | exact S1 | repeat (first | exact S1 | exact S0 | apply S2 | apply S3)))) H638 ?_
                    clear H638; intro a639 H639
                    refine hgo 21 rfl (by kernel_rfl) ?_
                    refine st_store1N rfl z_size30 rfl rfl rfl (by repeat (first | exact Uh | apply Ut)) q_len_c2 q_set_c2_1 (by decide) rfl rfl H639 ?_
                    clear H639; intro wx640 H640
                    refine hfinA H640.sep ?_
                    refine hdone (by kernel_rfl) ?_
                    refine cut_n ?_
                    have hsx := H640.sep.sub (l' := [It.row _ 76 (.slice ArW _ crW) _ _, It.blk bp 63 _, It.blk b168 38 _, It.blk b2 38 _]) (by repeat (first | exact S1 | exact S0 | apply S2 | apply S3))
                    simp only [List.nil_append, Int.toNat_natCast, Nat.zero_add, Pool.ins_cells, Pool.ins_count] at hsx
                    exact ⟨_, H640.fr.weak ⟨rfl, rfl, rfl, trivial⟩, hsx⟩
                  · skip
                    refine plain (y_loadB rfl z_agg30 rfl (by repeat (first | exact Mh | apply Mt)) q_ix_c2_1) rfl rfl rfl H631 ?_
                    clear H631; intro a641 H641
                    refine hfinA H641.sep ?_
                    refine htake 7 rfl (by kernel_rfl) (y_slS_hi rfl Try.underlying30 z_size38 rfl rfl (by omega) (by omega) (by omega)) rfl rfl rfl (fun _ h => (h.sub (by first | exact S0 | exact S1 | repeat (first | exact S1 | exact S0 | apply S2 | apply S3)))) H641 ?_
                    clear H641; intro a642 H642
                    refine hgo 1 rfl (by kernel_rfl) ?_
                    refine st_buildSlice rfl Try.underlying30 z_size38 z_zero38 rfl rfl rfl (show _ = some ([] : List Value) from rfl) rfl rfl rfl H642 ?_
                    clear H642; intro b643 a643 wx643 H643
                    refine hfinA H643.sep ?_
                    refine hgo 8 rfl (by kernel_rfl) ?_
                    replace H643 := H643.asRow (b := b643) (size := 76) (m := 0) (by repeat (first | exact Uh | apply Ut)) rfl (by unfold maxLen; omega)
                    refine st_append rfl z_slice30 z_notint30 rfl rfl (fun _ => (by repeat (first | exact Uh | apply Ut))) (fun w hs => Src.slice ((Pool.rdp hLL (rd_row (by repeat (first | exact Mh | apply Mt))) (((Pool.pos (Pool.left size L) x : Nat) : Int).toNat)) w hs) hsA (Pool.wc_cell _)) (by unfold maxLen at *; omega) (by omega) rfl rfl rfl H643 ?_
                    clear H643; intro v644 a644 wx644 hnil644 H644
                    obtain ⟨Ar644, cr644, hvr644, hRr644, hmr644⟩ := row_shape (v := v644) H644.sep (by repeat (first | exact Mh | apply Mt))
                    subst hvr644
                    refine hfinA H644.sep ?_
                    refine hgo 11 rfl (by kernel_rfl) ?_
                    refine st_append rfl z_slice30 z_notint30 rfl rfl (fun _ => (by repeat (first | exact Uh | apply Ut))) (fun w hs => Src.slice ((rd_blkA (by repeat (first | exact Mh | apply Mt))) w hs) wx.len (Pool.wait_cell _)) (by unfold maxLen at *; omega) (by omega) rfl rfl rfl H644 ?_
                    clear H644; intro v645 a645 wx645 hnil645 H645
                    obtain ⟨Ar645, cr645, hvr645, hRr645, hmr645⟩ := row_shape (v := v645) H645.sep (by repeat (first | exact Mh | apply Mt))
                    subst hvr645
                    refine hfinA H645.sep ?_
                    refine hgo 18 rfl (by kernel_rfl) ?_
                    refine st_append rfl z_slice30 z_notint30 rfl rfl (fun _ => (by repeat (first | exact Uh | apply Ut))) (fun w hs => Src.slice ((Pool.rds hLL (rd_row (by repeat (first | exact Mh | apply Mt))) (((Pool.pos (Pool.left size L) x : Nat) : Int).toNat) c3 hcap3) w hs) hsB (Pool.wc_cell _)) (by unfold maxLen at *; omega) (by omega) rfl rfl rfl H645 ?_
                    clear H645; intro v646 a646 wx646 hnil646 H646
                    obtain ⟨ArW, crW, hvrW, hRrW, hmrW⟩ := row_shape (v := v646) H646.sep (by repeat (first | exact Mh | apply Mt))
                    subst hvrW
                    refine hfinA H646.sep ?_
                    refine htake 19 rfl (by kernel_rfl) (y_nilCheck rfl rfl) rfl rfl rfl (fun _ h => (h.sub (by first | exact S0 | exact S1 | repeat (first | exact S1 | exact S0 | apply S2 | apply S3)))) H646 ?_
                    clear H646; intro a647 H647
                    refine htake 20 rfl (by kernel_rfl) (y_fieldB rfl z_field63_1 rfl (by first | (simp only [Nat.zero_add, Nat.add_zero, Nat.reduceAdd]; rfl) | rfl)) rfl rfl rfl (fun _ h => (h.sub (by first | exact S0 | exact S1 | repeat (first | exact S1 | exact S0 | apply S2 | apply S3)))) H647 ?_
                    clear H647; intro a648 H648
                    refine hgo 21 rfl (by kernel_rfl) ?_
                    refine st_store1N rfl z_size30 rfl rfl rfl (by repeat (first | exact Uh | apply Ut)) q_len_c2 q_set_c2_1 (by decide) rfl rfl H648 ?_
                    clear H648; intro wx649 H649
                    refine hfinA H649.sep ?_
                    refine hdone (by kernel_rfl) ?_
                    refine cut_n ?_
                    have hsx := H649.sep.sub (l' := [It.row _ 76 (.slice ArW _ crW) _ _, It.blk bp 63 _, It.blk b168 38 _, It.blk b2 38 _]) (by repeat (first | exact S1 | exact S0 | apply S2 | apply S3))
                    simp only [List.nil_append, Int.toNat_natCast, Nat.zero_add, Pool.ins_cells, Pool.ins_count] at hsx
                    exact ⟨_, H649.fr.weak ⟨rfl, rfl, rfl, trivial⟩, hsx⟩
            · clear H218; intro a650 wx650 hI650
              obtain ⟨vW, H650⟩ := hI650
              refine then_n ?_
              refine wp_seq ?_
              refine reg ?_
              refine plain (y_loadAB rfl z_agg38 z_size38 rfl (by repeat (first | exact Mh | apply Mt)) (q_ld_c8b32b32c4_0_76 (by assumption) (by assumption)) (q_len_c8b32b32c4 (by assumption) (by assumption))) rfl rfl rfl H650 ?_
              clear H650; intro a651 H651
              refine plain (y_move rfl rfl) rfl rfl rfl H651 ?_
              clear H651; intro a652 H652
              refine st_storeN rfl z_size38 rfl rfl (agg_cells _) (by repeat (first | exact Uh | apply Ut)) (q_one_c8b32b32c4 rfl rfl rfl rfl rfl rfl rfl rfl rfl rfl rfl rfl) (q_len_c8b32b32c4 (by assumption) (by assumption)) (q_len_c8b32b32c4 (by assumption) (by assumption)) (q_spl_c8b32b32c4_0_c8b32b32c4 (by assumption) (by assumption) (by assumption) (by assumption)) (by decide) rfl rfl H652 ?_
              clear H652; intro wx653 H653
              refine plain (y_assign rfl rfl) rfl rfl rfl H653 ?_
              clear H653; intro a654 H654
              refine plain (y_assign rfl rfl) rfl rfl rfl H654 ?_
              clear H654; intro a655 H655
              refine fin ?_
              refine then_n ?_
              refine wp_ret ?_
              -- return 6
              refine retctt rfl H655 rfl z_agg38 z_size38 (by repeat (first | exact Mh | apply Mt)) (q_len_c8b32b32c4 (by assumption) (by assumption)) rfl rfl ?_
              first | (have hz := hnr; rw [Pool.put_bad hnr]; exact ⟨_, _, rfl, ⟨rfl, (.slice A L.length cc), rfl⟩, H655.sep.sub (by repeat (first | exact S1 | exact S0 | apply S2 | apply S3))⟩) | (have hz := hnfz; have hsx := H655.sep.sub (List.Sublist.cons_cons _ (List.Sublist.cons_cons _ (List.Sublist.cons _ (List.Sublist.cons _ (List.Sublist.refl _))))); by_cases hgz : (L.length : Int) = size; (rw [(Pool.left_yes hgz).1] at hsx; rw [(Pool.left_yes hgz).2, Pool.put_gone (p := ⟨size, L⟩) hrt hnt (by dsimp only; omega) (hnfz hgz)]; exact ⟨_, _, rfl, ⟨by rw [decide_eq_true hgz]; rfl, vW, rfl⟩, hsx⟩); (rw [(Pool.left_no hgz).1] at hsx; rw [(Pool.left_no hgz).2, Pool.put_room (p := ⟨size, L⟩) hrt hnt (by dsimp only; omega)]; exact ⟨_, _, rfl, ⟨by rw [decide_eq_false hgz]; rfl, vW, rfl⟩, hsx⟩)) | (have hz := hful; rw [Pool.put_full (p := ⟨size, L⟩) hrt hnt (by dsimp only; omega) (by dsimp only; omega)]; exact ⟨_, _, rfl, ⟨rfl, (.slice A L.length cc), rfl⟩, H655.sep.sub (by repeat (first | exact S1 | exact S0 | apply S2 | apply S3))⟩) | (rw [Pool.put_twice (p := ⟨size, L⟩) hrt ⟨_, Pool.mem_getD hkl, by first | exact .inl (by assumption) | exact .inr ⟨by assumption, by assumption⟩⟩]; exact ⟨_, _, rfl, ⟨rfl, (.slice A L.length cc), rfl⟩, H655.sep.sub (by repeat (first | exact S1 | exact S0 | apply S2 | apply S3))⟩)

end Go.Proofs.Ytbdkgmkaakoigaa.P_Put
