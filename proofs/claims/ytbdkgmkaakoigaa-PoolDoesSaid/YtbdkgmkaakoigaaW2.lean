/- Part of a proof about given Go functions: contracts of functions, or plain laws. -/
import Derived.Test.YtbdkgmkaakoigaaS6
import Derived.Test.YtbdkgmkaakoigaaS4
import Derived.Test.YtbdkgmkaakoigaaS5
import Derived.Test.YtbdkgmkaakoigaaS7
import Derived.Test.YtbdkgmkaakoigaaProg
import Derived.Test.YtbdkgmkaakoigaaW1
set_option linter.unusedVariables false
set_option linter.unusedSimpArgs false
namespace Go.Proofs.Ytbdkgmkaakoigaa.P_R2
open Go.Sx Go.RowKit Go.Proofs.Ytbdkgmkaakoigaa.P_EqT Go.Proofs.Ytbdkgmkaakoigaa.P_Tx Go.Proofs.Ytbdkgmkaakoigaa.P_R1

theorem z_zeroN38 : zeroL Try.prog 38 = some ((.int .i64 0 :: (.int .i64 0 :: (.int .i64 0 :: (.int .i64 0 :: (.string ⟨#[]⟩ :: (.bool false :: (.int .i64 0 :: (.int .i64 0 :: ((List.replicate 32 (0 : UInt8)).map u8 ++ ((List.replicate 32 (0 : UInt8)).map u8 ++ (.int .i64 0 :: (.int .i64 0 :: (.int .i64 0 :: (.int .i64 0 :: []))))))))))))))) := by kernel_rfl
theorem z_field38_0 : fieldB Try.prog 38 0 = some 0 := by kernel_rfl
theorem z_agg36 : aggB Try.prog 36 = some true := by kernel_rfl
theorem z_size36 : sizeB Try.prog 36 = some 72 := by kernel_rfl
theorem q_ld_c8b32b32c4_0_72 {a0 a1 a2 a3 a4 a5 a6 a7 a10 a11 a12 a13 : Value} {t8 t9 : List UInt8} (h8 : t8.length = 32) (h9 : t9.length = 32) : ((a0 :: a1 :: a2 :: a3 :: a4 :: a5 :: a6 :: a7 :: (t8.map u8 ++ ((t9.map u8 ++ (a10 :: a11 :: a12 :: a13 :: []))))).drop 0).take 72 = a0 :: a1 :: a2 :: a3 :: a4 :: a5 :: a6 :: a7 :: (t8.map u8 ++ (t9.map u8)) := (ld_s (ld_s (ld_s (ld_s (ld_s (ld_s (ld_s (ld_s (ld_t (k := 32) (n := 32) h8 rfl (ld_h h9))))))))))
theorem q_len_c8b32b32 {a0 a1 a2 a3 a4 a5 a6 a7 : Value} {t8 t9 : List UInt8} (h8 : t8.length = 32) (h9 : t9.length = 32) : (a0 :: a1 :: a2 :: a3 :: a4 :: a5 :: a6 :: a7 :: (t8.map u8 ++ (t9.map u8))).length = 72 := (len_c (n := 71) (len_c (n := 70) (len_c (n := 69) (len_c (n := 68) (len_c (n := 67) (len_c (n := 66) (len_c (n := 65) (len_c (n := 64) (len_b (k := 32) (n := 32) h8 (len_e (k := 32) h9))))))))))
theorem z_call29 : callB Try.prog 29 = true := by kernel_rfl
theorem z_places38 : placesB Try.prog 38 = some [(0, 72), (72, 1), (73, 1), (74, 1), (75, 1)] := by kernel_rfl
theorem z_size38 : sizeB Try.prog 38 = some 76 := by kernel_rfl
theorem q_one_c8b32b32c4 {a0 a1 a2 a3 a4 a5 a6 a7 a10 a11 a12 a13 : Value} {t8 t9 : List UInt8} (o0 : a0.oneCell' = true) (o1 : a1.oneCell' = true) (o2 : a2.oneCell' = true) (o3 : a3.oneCell' = true) (o4 : a4.oneCell' = true) (o5 : a5.oneCell' = true) (o6 : a6.oneCell' = true) (o7 : a7.oneCell' = true) (o10 : a10.oneCell' = true) (o11 : a11.oneCell' = true) (o12 : a12.oneCell' = true) (o13 : a13.oneCell' = true) : (a0 :: a1 :: a2 :: a3 :: a4 :: a5 :: a6 :: a7 :: (t8.map u8 ++ ((t9.map u8 ++ (a10 :: a11 :: a12 :: a13 :: []))))).all (·.oneCell') = true := (one_c o0 (one_c o1 (one_c o2 (one_c o3 (one_c o4 (one_c o5 (one_c o6 (one_c o7 (one_b (one_b (one_c o10 (one_c o11 (one_c o12 (one_c o13 one_n))))))))))))))
theorem q_len_c8b32b32c4 {a0 a1 a2 a3 a4 a5 a6 a7 a10 a11 a12 a13 : Value} {t8 t9 : List UInt8} (h8 : t8.length = 32) (h9 : t9.length = 32) : (a0 :: a1 :: a2 :: a3 :: a4 :: a5 :: a6 :: a7 :: (t8.map u8 ++ ((t9.map u8 ++ (a10 :: a11 :: a12 :: a13 :: []))))).length = 76 := (len_c (n := 75) (len_c (n := 74) (len_c (n := 73) (len_c (n := 72) (len_c (n := 71) (len_c (n := 70) (len_c (n := 69) (len_c (n := 68) (len_b (k := 32) (n := 36) h8 (len_b (k := 32) (n := 4) h9 (len_c (n := 3) (len_c (n := 2) (len_c (n := 1) (len_c (n := 0) len_n))))))))))))))
theorem q_spl_c8b32b32c4_0_c8b32b32c4 {a0 a1 a2 a3 a4 a5 a6 a7 a10 a11 a12 a13 : Value} {t8 t9 : List UInt8} {b0 b1 b2 b3 b4 b5 b6 b7 b10 b11 b12 b13 : Value} {s8 s9 : List UInt8} (h8 : t8.length = 32) (h9 : t9.length = 32) (g8 : s8.length = 32) (g9 : s9.length = 32) : spl (a0 :: a1 :: a2 :: a3 :: a4 :: a5 :: a6 :: a7 :: (t8.map u8 ++ ((t9.map u8 ++ (a10 :: a11 :: a12 :: a13 :: []))))) 0 (b0 :: b1 :: b2 :: b3 :: b4 :: b5 :: b6 :: b7 :: (s8.map u8 ++ ((s9.map u8 ++ (b10 :: b11 :: b12 :: b13 :: []))))) = b0 :: b1 :: b2 :: b3 :: b4 :: b5 :: b6 :: b7 :: (s8.map u8 ++ ((s9.map u8 ++ (b10 :: b11 :: b12 :: b13 :: [])))) := (spl_a (z := 76) (len_c (n := 75) (len_c (n := 74) (len_c (n := 73) (len_c (n := 72) (len_c (n := 71) (len_c (n := 70) (len_c (n := 69) (len_c (n := 68) (len_b (k := 32) (n := 36) h8 (len_b (k := 32) (n := 4) h9 (len_c (n := 3) (len_c (n := 2) (len_c (n := 1) (len_c (n := 0) len_n)))))))))))))) (len_c (n := 75) (len_c (n := 74) (len_c (n := 73) (len_c (n := 72) (len_c (n := 71) (len_c (n := 70) (len_c (n := 69) (len_c (n := 68) (len_b (k := 32) (n := 36) g8 (len_b (k := 32) (n := 4) g9 (len_c (n := 3) (len_c (n := 2) (len_c (n := 1) (len_c (n := 0) len_n)))))))))))))))
theorem z_agg38 : aggB Try.prog 38 = some true := by kernel_rfl
theorem z_field38_1 : fieldB Try.prog 38 1 = some 72 := by kernel_rfl
theorem z_agg3 : aggB Try.prog 3 = some false := by kernel_rfl
theorem q_ix_c8b32b32c4_72 {a0 a1 a2 a3 a4 a5 a6 a7 a10 a11 a12 a13 : Value} {t8 t9 : List UInt8} (h8 : t8.length = 32) (h9 : t9.length = 32) : (a0 :: a1 :: a2 :: a3 :: a4 :: a5 :: a6 :: a7 :: (t8.map u8 ++ ((t9.map u8 ++ (a10 :: a11 :: a12 :: a13 :: [])))))[72]? = some a10 := (ix_c (o := 71) (ix_c (o := 70) (ix_c (o := 69) (ix_c (o := 68) (ix_c (o := 67) (ix_c (o := 66) (ix_c (o := 65) (ix_c (o := 64) (ix_b (k := 32) (o := 32) h8 rfl (ix_b (k := 32) (o := 0) h9 rfl ix_0))))))))))
theorem z_call30 : callB Try.prog 30 = true := by kernel_rfl
theorem z_field38_2 : fieldB Try.prog 38 2 = some 73 := by kernel_rfl
theorem q_ix_c8b32b32c4_73 {a0 a1 a2 a3 a4 a5 a6 a7 a10 a11 a12 a13 : Value} {t8 t9 : List UInt8} (h8 : t8.length = 32) (h9 : t9.length = 32) : (a0 :: a1 :: a2 :: a3 :: a4 :: a5 :: a6 :: a7 :: (t8.map u8 ++ ((t9.map u8 ++ (a10 :: a11 :: a12 :: a13 :: [])))))[73]? = some a11 := (ix_c (o := 72) (ix_c (o := 71) (ix_c (o := 70) (ix_c (o := 69) (ix_c (o := 68) (ix_c (o := 67) (ix_c (o := 66) (ix_c (o := 65) (ix_b (k := 32) (o := 33) h8 rfl (ix_b (k := 32) (o := 1) h9 rfl (ix_c (o := 0) ix_0)))))))))))
theorem z_field38_3 : fieldB Try.prog 38 3 = some 74 := by kernel_rfl
theorem q_ix_c8b32b32c4_74 {a0 a1 a2 a3 a4 a5 a6 a7 a10 a11 a12 a13 : Value} {t8 t9 : List UInt8} (h8 : t8.length = 32) (h9 : t9.length = 32) : (a0 :: a1 :: a2 :: a3 :: a4 :: a5 :: a6 :: a7 :: (t8.map u8 ++ ((t9.map u8 ++ (a10 :: a11 :: a12 :: a13 :: [])))))[74]? = some a12 := (ix_c (o := 73) (ix_c (o := 72) (ix_c (o := 71) (ix_c (o := 70) (ix_c (o := 69) (ix_c (o := 68) (ix_c (o := 67) (ix_c (o := 66) (ix_b (k := 32) (o := 34) h8 rfl (ix_b (k := 32) (o := 2) h9 rfl (ix_c (o := 1) (ix_c (o := 0) ix_0))))))))))))
theorem z_field38_4 : fieldB Try.prog 38 4 = some 75 := by kernel_rfl
theorem q_ix_c8b32b32c4_75 {a0 a1 a2 a3 a4 a5 a6 a7 a10 a11 a12 a13 : Value} {t8 t9 : List UInt8} (h8 : t8.length = 32) (h9 : t9.length = 32) : (a0 :: a1 :: a2 :: a3 :: a4 :: a5 :: a6 :: a7 :: (t8.map u8 ++ ((t9.map u8 ++ (a10 :: a11 :: a12 :: a13 :: [])))))[75]? = some a13 := (ix_c (o := 74) (ix_c (o := 73) (ix_c (o := 72) (ix_c (o := 71) (ix_c (o := 70) (ix_c (o := 69) (ix_c (o := 68) (ix_c (o := 67) (ix_b (k := 32) (o := 35) h8 rfl (ix_b (k := 32) (o := 3) h9 rfl (ix_c (o := 2) (ix_c (o := 1) (ix_c (o := 0) ix_0)))))))))))))
theorem z_field32_1 : fieldB Try.prog 32 1 = some 1 := by kernel_rfl
theorem z_agg30 : aggB Try.prog 30 = some false := by kernel_rfl
theorem q_ix_c2_1 {a0 a1 : Value} : (a0 :: a1 :: [])[1]? = some a1 := (ix_c (o := 0) ix_0)
theorem z_field36_0 : fieldB Try.prog 36 0 = some 0 := by kernel_rfl
theorem q_ix_c8b32b32c4_0 {a0 a1 a2 a3 a4 a5 a6 a7 a10 a11 a12 a13 : Value} {t8 t9 : List UInt8} : (a0 :: a1 :: a2 :: a3 :: a4 :: a5 :: a6 :: a7 :: (t8.map u8 ++ ((t9.map u8 ++ (a10 :: a11 :: a12 :: a13 :: [])))))[0]? = some a0 := ix_0
theorem z_field36_1 : fieldB Try.prog 36 1 = some 1 := by kernel_rfl
theorem q_ix_c8b32b32c4_1 {a0 a1 a2 a3 a4 a5 a6 a7 a10 a11 a12 a13 : Value} {t8 t9 : List UInt8} : (a0 :: a1 :: a2 :: a3 :: a4 :: a5 :: a6 :: a7 :: (t8.map u8 ++ ((t9.map u8 ++ (a10 :: a11 :: a12 :: a13 :: [])))))[1]? = some a1 := (ix_c (o := 0) ix_0)
theorem z_field32_0 : fieldB Try.prog 32 0 = some 0 := by kernel_rfl
theorem q_ix_c2_0 {a0 a1 : Value} : (a0 :: a1 :: [])[0]? = some a0 := ix_0
theorem z_field36_2 : fieldB Try.prog 36 2 = some 2 := by kernel_rfl
theorem q_ix_c8b32b32c4_2 {a0 a1 a2 a3 a4 a5 a6 a7 a10 a11 a12 a13 : Value} {t8 t9 : List UInt8} : (a0 :: a1 :: a2 :: a3 :: a4 :: a5 :: a6 :: a7 :: (t8.map u8 ++ ((t9.map u8 ++ (a10 :: a11 :: a12 :: a13 :: [])))))[2]? = some a2 := (ix_c (o := 1) (ix_c (o := 0) ix_0))
theorem z_call31 : callB Try.prog 31 = true := by kernel_rfl
theorem z_size30 : sizeB Try.prog 30 = some 1 := by kernel_rfl
theorem q_len_c2 {a0 a1 : Value} : (a0 :: a1 :: []).length = 2 := (len_c (n := 1) (len_c (n := 0) len_n))
theorem q_set_c2_1 {a0 a1 : Value} {v : Value} : (a0 :: a1 :: []).set 1 v = a0 :: v :: [] := (set_c (o := 0) set_0)
theorem q_ld_c8b32b32c4_0_76 {a0 a1 a2 a3 a4 a5 a6 a7 a10 a11 a12 a13 : Value} {t8 t9 : List UInt8} (h8 : t8.length = 32) (h9 : t9.length = 32) : ((a0 :: a1 :: a2 :: a3 :: a4 :: a5 :: a6 :: a7 :: (t8.map u8 ++ ((t9.map u8 ++ (a10 :: a11 :: a12 :: a13 :: []))))).drop 0).take 76 = a0 :: a1 :: a2 :: a3 :: a4 :: a5 :: a6 :: a7 :: (t8.map u8 ++ ((t9.map u8 ++ (a10 :: a11 :: a12 :: a13 :: [])))) := (ld_a (len_c (n := 75) (len_c (n := 74) (len_c (n := 73) (len_c (n := 72) (len_c (n := 71) (len_c (n := 70) (len_c (n := 69) (len_c (n := 68) (len_b (k := 32) (n := 36) h8 (len_b (k := 32) (n := 4) h9 (len_c (n := 3) (len_c (n := 2) (len_c (n := 1) (len_c (n := 0) len_n)))))))))))))))
theorem z_zero38 : zeroL Try.prog 38 = some ([.int .i64 0, .int .i64 0, .int .i64 0, .int .i64 0, .string ⟨#[]⟩, .bool false, .int .i64 0, .int .i64 0, .int .u8 0, .int .u8 0, .int .u8 0, .int .u8 0, .int .u8 0, .int .u8 0, .int .u8 0, .int .u8 0, .int .u8 0, .int .u8 0, .int .u8 0, .int .u8 0, .int .u8 0, .int .u8 0, .int .u8 0, .int .u8 0, .int .u8 0, .int .u8 0, .int .u8 0, .int .u8 0, .int .u8 0, .int .u8 0, .int .u8 0, .int .u8 0, .int .u8 0, .int .u8 0, .int .u8 0, .int .u8 0, .int .u8 0, .int .u8 0, .int .u8 0, .int .u8 0, .int .u8 0, .int .u8 0, .int .u8 0, .int .u8 0, .int .u8 0, .int .u8 0, .int .u8 0, .int .u8 0, .int .u8 0, .int .u8 0, .int .u8 0, .int .u8 0, .int .u8 0, .int .u8 0, .int .u8 0, .int .u8 0, .int .u8 0, .int .u8 0, .int .u8 0, .int .u8 0, .int .u8 0, .int .u8 0, .int .u8 0, .int .u8 0, .int .u8 0, .int .u8 0, .int .u8 0, .int .u8 0, .int .u8 0, .int .u8 0, .int .u8 0, .int .u8 0, .int .i64 0, .int .i64 0, .int .i64 0, .int .i64 0]) := by kernel_rfl
theorem z_slice30 : sliceB Try.prog 30 = some (38, 76, 168) := by kernel_rfl
theorem z_notint30 : notIntB Try.prog 30 = true := by kernel_rfl

set_option maxRecDepth 100000 in
set_option maxHeartbeats 8000000 in
theorem xput (L : List Pool.Wait) (hL : Pool.Wfs L) (size : Int) (xp : Nat) (v : Value) (hlen : L.length ≤ 1000) (hg : Pool.Good ⟨size, L⟩) (x : Pool.Wait) (wx : Pool.Wait.Wf x) {w : World} (hs : Sep (fps [It.row 38 76 v L.length (Pool.wc L), It.blk xp 32 [i64 size, v]]) w w [It.row 38 76 v L.length (Pool.wc L), It.blk xp 32 [i64 size, v]]) : Calls Try.prog 11 #[.pointer (some ⟨xp, 0, none⟩), .agg (Pool.Wait.cells x).toArray] w (Post (fps [It.row 38 76 v L.length (Pool.wc L), It.blk xp 32 [i64 size, v]]) w fun u l' => u = .tuple #[.agg (Pool.Wait.cells (Pool.put ⟨size, L⟩ x).2.1).toArray, .bool (Pool.put ⟨size, L⟩ x).2.2.1, .int .i64 (Pool.put ⟨size, L⟩ x).2.2.2] ∧ ∃ v', l' = [It.row 38 76 v' (Pool.put ⟨size, L⟩ x).1.L.length (Pool.wc (Pool.put ⟨size, L⟩ x).1.L), It.blk xp 32 [i64 size, v']]) := by
  obtain ⟨A, cc, rfl, hRx, hmx⟩ := row_shape (v := v) hs (by repeat (first | exact Mh | apply Mt))
  have hcap := row_cap (A := A) (c := cc) hs (by repeat (first | exact Mh | apply Mt))
  have whx := wx.tx.hand
  have wtx := wx.tx.tag
  have hfit := hg.fits
  have hsz := hg.size
  dsimp only at hfit hsz
  have hlf := Pool.left_len size L
  have hLL := hL.left size
  have hwo := hL.out size
  have who1 := hwo.tx.hand
  have who2 := hwo.tx.tag
  have lz32 : (List.replicate 32 (0 : UInt8)).length = 32 := List.length_replicate
  have lz0 := wx.tx.hand
  have lz1 := wx.tx.tag
  refine enterL (args := [.pointer (some ⟨xp, 0, none⟩), .agg (Pool.Wait.cells x).toArray]) Try.func11 rfl rfl (l := [It.row 38 76 (.slice A L.length cc) L.length (Pool.wc L), It.blk xp 32 [i64 size, (.slice A L.length cc)]]) hs ?_
  intro a0 H0
  refine wp_seq ?_
  refine reg ?_
  refine st_box rfl rfl (agg_cells _) rfl rfl rfl H0 ?_
  clear H0; intro b1 a1 wx1 H1
  refine st_alloc rfl z_zeroN38 rfl rfl rfl H1 ?_
  clear H1; intro b2 a2 wx2 H2
  refine plain (y_assign rfl rfl) rfl rfl rfl H2 ?_
  clear H2; intro a3 H3
  refine plain (y_assign rfl rfl) rfl rfl rfl H3 ?_
  clear H3; intro a4 H4
  refine fin ?_
  refine then_n ?_
  refine wp_seq ?_
  refine wp_seq ?_
  refine reg ?_
  refine plain (y_fieldB rfl z_field38_0 rfl (by first | (simp only [Nat.zero_add, Nat.add_zero, Nat.reduceAdd]; rfl) | rfl)) rfl rfl rfl H4 ?_
  clear H4; intro a5 H5
  refine plain (y_loadAB rfl z_agg36 z_size36 rfl (by repeat (first | exact Mh | apply Mt)) (q_ld_c8b32b32c4_0_72 (by assumption) (by assumption)) (q_len_c8b32b32 (by assumption) (by assumption))) rfl rfl rfl H5 ?_
  clear H5; intro a6 H6
  refine st_callg rfl z_call29 rfl rfl rfl rfl H6 (rtcheck x.tx wx.tx _) ?_
  clear H6; intro a7 wx7 H7
  refine plain (y_neq rfl rfl rfl) rfl rfl rfl H7 ?_
  clear H7; intro a8 H8
  refine plain (y_move rfl rfl) rfl rfl rfl H8 ?_
  clear H8; intro a9 H9
  refine Sx.part (d := 19) H9 rfl (fun hg10 => ?_) (fun hg10 => ?_)
  · first
    | fail
    | skip
      clear H9; intro H11
      try simp only [decide_eq_true_eq, decide_eq_false_iff_not, Bool.not_eq_true', Bool.not_eq_false', Bool.and_eq_true, Bool.not_eq_true, Bool.not_eq_false] at hg10
      have hnr : ¬ Pool.right x := fun z => hg10 z.1
      refine skip rfl rfl rfl H11 ?_
      clear H11; intro a12 H12
      refine skip rfl rfl rfl H12 ?_
      clear H12; intro a13 H13
      refine skip rfl rfl rfl H13 ?_
      clear H13; intro a14 H14
      refine skip rfl rfl rfl H14 ?_
      clear H14; intro a15 H15
      refine plain (y_pick_t rfl rfl rfl) rfl rfl rfl H15 ?_
      clear H15; intro a16 H16
      refine plain (y_move rfl rfl) rfl rfl rfl H16 ?_
      clear H16; intro a17 H17
      refine skip rfl rfl rfl H17 ?_
      clear H17; intro a18 H18
      refine skip rfl rfl rfl H18 ?_
      clear H18; intro a19 H19
      refine skip rfl rfl rfl H19 ?_
      clear H19; intro a20 H20
      refine skip rfl rfl rfl H20 ?_
      clear H20; intro a21 H21
      refine plain (y_pick_t rfl rfl rfl) rfl rfl rfl H21 ?_
      clear H21; intro a22 H22
      refine plain (y_move rfl rfl) rfl rfl rfl H22 ?_
      clear H22; intro a23 H23
      refine skip rfl rfl rfl H23 ?_
      clear H23; intro a24 H24
      refine skip rfl rfl rfl H24 ?_
      clear H24; intro a25 H25
      refine skip rfl rfl rfl H25 ?_
      clear H25; intro a26 H26
      refine skip rfl rfl rfl H26 ?_
      clear H26; intro a27 H27
      refine plain (y_pick_t rfl rfl rfl) rfl rfl rfl H27 ?_
      clear H27; intro a28 H28
      refine plain (y_move rfl rfl) rfl rfl rfl H28 ?_
      clear H28; intro a29 H29
      refine skip rfl rfl rfl H29 ?_
      clear H29; intro a30 H30
      refine skip rfl rfl rfl H30 ?_
      clear H30; intro a31 H31
      refine skip rfl rfl rfl H31 ?_
      clear H31; intro a32 H32
      refine skip rfl rfl rfl H32 ?_
      clear H32; intro a33 H33
      refine plain (y_pick_t rfl rfl rfl) rfl rfl rfl H33 ?_
      clear H33; intro a34 H34
      refine fin ?_
      refine then_n ?_
      refine cnd_t H34 rfl ?_
      refine wp_seq ?_
      refine reg ?_
      refine plain (y_build rfl z_zeroN38 z_places38 rfl lay_n) rfl rfl rfl H34 ?_
      clear H34; intro a36 H36
      refine st_storeN rfl z_size38 rfl rfl (agg_cells _) (by repeat (first | exact Uh | apply Ut)) (q_one_c8b32b32c4 rfl rfl rfl rfl rfl rfl rfl rfl rfl rfl rfl rfl) (q_len_c8b32b32c4 (by assumption) (by assumption)) (q_len_c8b32b32c4 (by assumption) (by assumption)) (q_spl_c8b32b32c4_0_c8b32b32c4 (by assumption) (by assumption) (by assumption) (by assumption)) (by decide) rfl rfl H36 ?_
      clear H36; intro wx37 H37
      refine plain (y_assign rfl rfl) rfl rfl rfl H37 ?_
      clear H37; intro a38 H38
      refine plain (y_assign rfl rfl) rfl rfl rfl H38 ?_
      clear H38; intro a39 H39
      refine fin ?_
      refine then_n ?_
      refine wp_ret ?_
      refine then_r ?_
      -- return 1
      refine retctt rfl H39 rfl z_agg38 z_size38 (by repeat (first | exact Mh | apply Mt)) (q_len_c8b32b32c4 (by assumption) (by assumption)) rfl rfl ?_
      first | (have hz := hnr; rw [Pool.put_bad hnr]; exact ⟨_, _, rfl, ⟨rfl, (.slice A L.length cc), rfl⟩, H39.sep.sub (by repeat (first | exact S1 | exact S0 | apply S2 | apply S3))⟩) | (have hz := hnfz; have hsx := H39.sep.sub (l' := [It.row _ 76 (.slice A5 (Pool.ins (Pool.left size L) x).length c5) _ _, It.blk xp _ [i64 size, (.slice A5 (Pool.ins (Pool.left size L) x).length c5)]]) (by repeat (first | exact S1 | exact S0 | apply S2 | apply S3)); by_cases hgz : (L.length : Int) = size; (rw [(Pool.left_yes hgz).1] at hsx; rw [(Pool.left_yes hgz).2, Pool.put_gone (p := ⟨size, L⟩) hrt hnt (by dsimp only; omega) (hnfz hgz)]; exact ⟨_, _, rfl, ⟨by rw [decide_eq_true hgz]; rfl, _, rfl⟩, hsx⟩); (rw [(Pool.left_no hgz).1] at hsx; rw [(Pool.left_no hgz).2, Pool.put_room (p := ⟨size, L⟩) hrt hnt (by dsimp only; omega)]; exact ⟨_, _, rfl, ⟨by rw [decide_eq_false hgz]; rfl, _, rfl⟩, hsx⟩)) | (have hz := hful; rw [Pool.put_full (p := ⟨size, L⟩) hrt hnt (by dsimp only; omega) (by dsimp only; omega)]; exact ⟨_, _, rfl, ⟨rfl, (.slice A L.length cc), rfl⟩, H39.sep.sub (by repeat (first | exact S1 | exact S0 | apply S2 | apply S3))⟩) | (rw [Pool.put_twice (p := ⟨size, L⟩) hrt ⟨_, Pool.mem_getD hkl, by first | exact .inl (by assumption) | exact .inr ⟨by assumption, by assumption⟩⟩]; exact ⟨_, _, rfl, ⟨rfl, (.slice A L.length cc), rfl⟩, H39.sep.sub (by repeat (first | exact S1 | exact S0 | apply S2 | apply S3))⟩)
  · first
    | fail
    | skip
      clear H9; intro H40
      try simp only [decide_eq_true_eq, decide_eq_false_iff_not, Bool.not_eq_true', Bool.not_eq_false', Bool.and_eq_true, Bool.not_eq_true, Bool.not_eq_false] at hg10
      have hk0 : Txs.check x.tx = 0 := by omega
      refine plain (y_fieldB rfl z_field38_1 rfl (by first | (simp only [Nat.zero_add, Nat.add_zero, Nat.reduceAdd]; rfl) | rfl)) rfl rfl rfl H40 ?_
      clear H40; intro a41 H41
      refine plain (y_loadB rfl z_agg3 rfl (by repeat (first | exact Mh | apply Mt)) (q_ix_c8b32b32c4_72 (by assumption) (by assumption))) rfl rfl rfl H41 ?_
      clear H41; intro a42 H42
      refine st_callg rfl z_call30 rfl rfl rfl rfl H42 (rwin18 _ _) ?_
      clear H42; intro a43 wx43 H43
      refine plain ((by first | exact y_not_d rfl rfl | exact y_not rfl rfl)) rfl rfl rfl H43 ?_
      clear H43; intro a44 H44
      refine plain (y_pick_f rfl rfl rfl) rfl rfl rfl H44 ?_
      clear H44; intro a45 H45
      refine plain (y_move rfl rfl) rfl rfl rfl H45 ?_
      clear H45; intro a46 H46
      refine Sx.part (d := 25) H46 rfl (fun hg47 => ?_) (fun hg47 => ?_)
      · first
        | fail
        | skip
          clear H46; intro H48
          try simp only [decide_eq_true_eq, decide_eq_false_iff_not, Bool.not_eq_true', Bool.not_eq_false', Bool.and_eq_true, Bool.not_eq_true, Bool.not_eq_false] at hg47
          have hnr : ¬ Pool.right x := fun z => by first | exact hg47 z.2.1 | contradiction
          refine skip rfl rfl rfl H48 ?_
          clear H48; intro a49 H49
          refine skip rfl rfl rfl H49 ?_
          clear H49; intro a50 H50
          refine skip rfl rfl rfl H50 ?_
          clear H50; intro a51 H51
          refine skip rfl rfl rfl H51 ?_
          clear H51; intro a52 H52
          refine plain (y_pick_t rfl rfl rfl) rfl rfl rfl H52 ?_
          clear H52; intro a53 H53
          refine plain (y_move rfl rfl) rfl rfl rfl H53 ?_
          clear H53; intro a54 H54
          refine skip rfl rfl rfl H54 ?_
          clear H54; intro a55 H55
          refine skip rfl rfl rfl H55 ?_
          clear H55; intro a56 H56
          refine skip rfl rfl rfl H56 ?_
          clear H56; intro a57 H57
          refine skip rfl rfl rfl H57 ?_
          clear H57; intro a58 H58
          refine plain (y_pick_t rfl rfl rfl) rfl rfl rfl H58 ?_
          clear H58; intro a59 H59
          refine plain (y_move rfl rfl) rfl rfl rfl H59 ?_
          clear H59; intro a60 H60
          refine skip rfl rfl rfl H60 ?_
          clear H60; intro a61 H61
          refine skip rfl rfl rfl H61 ?_
          clear H61; intro a62 H62
          refine skip rfl rfl rfl H62 ?_
          clear H62; intro a63 H63
          refine skip rfl rfl rfl H63 ?_
          clear H63; intro a64 H64
          refine plain (y_pick_t rfl rfl rfl) rfl rfl rfl H64 ?_
          clear H64; intro a65 H65
          refine fin ?_
          refine then_n ?_
          refine cnd_t H65 rfl ?_
          refine wp_seq ?_
          refine reg ?_
          refine plain (y_build rfl z_zeroN38 z_places38 rfl lay_n) rfl rfl rfl H65 ?_
          clear H65; intro a67 H67
          refine st_storeN rfl z_size38 rfl rfl (agg_cells _) (by repeat (first | exact Uh | apply Ut)) (q_one_c8b32b32c4 rfl rfl rfl rfl rfl rfl rfl rfl rfl rfl rfl rfl) (q_len_c8b32b32c4 (by assumption) (by assumption)) (q_len_c8b32b32c4 (by assumption) (by assumption)) (q_spl_c8b32b32c4_0_c8b32b32c4 (by assumption) (by assumption) (by assumption) (by assumption)) (by decide) rfl rfl H67 ?_
          clear H67; intro wx68 H68
          refine plain (y_assign rfl rfl) rfl rfl rfl H68 ?_
          clear H68; intro a69 H69
          refine plain (y_assign rfl rfl) rfl rfl rfl H69 ?_
          clear H69; intro a70 H70
          refine fin ?_
          refine then_n ?_
          refine wp_ret ?_
          refine then_r ?_
          -- return 2
          refine retctt rfl H70 rfl z_agg38 z_size38 (by repeat (first | exact Mh | apply Mt)) (q_len_c8b32b32c4 (by assumption) (by assumption)) rfl rfl ?_
          first | (have hz := hnr; rw [Pool.put_bad hnr]; exact ⟨_, _, rfl, ⟨rfl, (.slice A L.length cc), rfl⟩, H70.sep.sub (by repeat (first | exact S1 | exact S0 | apply S2 | apply S3))⟩) | (have hz := hnfz; have hsx := H70.sep.sub (l' := [It.row _ 76 (.slice A5 (Pool.ins (Pool.left size L) x).length c5) _ _, It.blk xp _ [i64 size, (.slice A5 (Pool.ins (Pool.left size L) x).length c5)]]) (by repeat (first | exact S1 | exact S0 | apply S2 | apply S3)); by_cases hgz : (L.length : Int) = size; (rw [(Pool.left_yes hgz).1] at hsx; rw [(Pool.left_yes hgz).2, Pool.put_gone (p := ⟨size, L⟩) hrt hnt (by dsimp only; omega) (hnfz hgz)]; exact ⟨_, _, rfl, ⟨by rw [decide_eq_true hgz]; rfl, _, rfl⟩, hsx⟩); (rw [(Pool.left_no hgz).1] at hsx; rw [(Pool.left_no hgz).2, Pool.put_room (p := ⟨size, L⟩) hrt hnt (by dsimp only; omega)]; exact ⟨_, _, rfl, ⟨by rw [decide_eq_false hgz]; rfl, _, rfl⟩, hsx⟩)) | (have hz := hful; rw [Pool.put_full (p := ⟨size, L⟩) hrt hnt (by dsimp only; omega) (by dsimp only; omega)]; exact ⟨_, _, rfl, ⟨rfl, (.slice A L.length cc), rfl⟩, H70.sep.sub (by repeat (first | exact S1 | exact S0 | apply S2 | apply S3))⟩) | (rw [Pool.put_twice (p := ⟨size, L⟩) hrt ⟨_, Pool.mem_getD hkl, by first | exact .inl (by assumption) | exact .inr ⟨by assumption, by assumption⟩⟩]; exact ⟨_, _, rfl, ⟨rfl, (.slice A L.length cc), rfl⟩, H70.sep.sub (by repeat (first | exact S1 | exact S0 | apply S2 | apply S3))⟩)
      · first
        | fail
        | skip
          clear H46; intro H71
          try simp only [decide_eq_true_eq, decide_eq_false_iff_not, Bool.not_eq_true', Bool.not_eq_false', Bool.and_eq_true, Bool.not_eq_true, Bool.not_eq_false] at hg47
          have hk1 := Decidable.not_not.1 hg47
          refine plain (y_fieldB rfl z_field38_2 rfl (by first | (simp only [Nat.zero_add, Nat.add_zero, Nat.reduceAdd]; rfl) | rfl)) rfl rfl rfl H71 ?_
          clear H71; intro a72 H72
          refine plain (y_loadB rfl z_agg3 rfl (by repeat (first | exact Mh | apply Mt)) (q_ix_c8b32b32c4_73 (by assumption) (by assumption))) rfl rfl rfl H72 ?_
          clear H72; intro a73 H73
          refine st_callg rfl z_call30 rfl rfl rfl rfl H73 (rwin18 _ _) ?_
          clear H73; intro a74 wx74 H74
          refine plain ((by first | exact y_not_d rfl rfl | exact y_not rfl rfl)) rfl rfl rfl H74 ?_
          clear H74; intro a75 H75
          refine plain (y_pick_f rfl rfl rfl) rfl rfl rfl H75 ?_
          clear H75; intro a76 H76
          refine plain (y_move rfl rfl) rfl rfl rfl H76 ?_
          clear H76; intro a77 H77
          refine Sx.part (d := 31) H77 rfl (fun hg78 => ?_) (fun hg78 => ?_)
          · first
            | fail
            | skip
              clear H77; intro H79
              try simp only [decide_eq_true_eq, decide_eq_false_iff_not, Bool.not_eq_true', Bool.not_eq_false', Bool.and_eq_true, Bool.not_eq_true, Bool.not_eq_false] at hg78
              have hnr : ¬ Pool.right x := fun z => by first | exact hg78 z.2.2.1 | contradiction
              refine skip rfl rfl rfl H79 ?_
              clear H79; intro a80 H80
              refine skip rfl rfl rfl H80 ?_
              clear H80; intro a81 H81
              refine skip rfl rfl rfl H81 ?_
              clear H81; intro a82 H82
              refine skip rfl rfl rfl H82 ?_
              clear H82; intro a83 H83
              refine plain (y_pick_t rfl rfl rfl) rfl rfl rfl H83 ?_
              clear H83; intro a84 H84
              refine plain (y_move rfl rfl) rfl rfl rfl H84 ?_
              clear H84; intro a85 H85
              refine skip rfl rfl rfl H85 ?_
              clear H85; intro a86 H86
              refine skip rfl rfl rfl H86 ?_
              clear H86; intro a87 H87
              refine skip rfl rfl rfl H87 ?_
              clear H87; intro a88 H88
              refine skip rfl rfl rfl H88 ?_
              clear H88; intro a89 H89
              refine plain (y_pick_t rfl rfl rfl) rfl rfl rfl H89 ?_
              clear H89; intro a90 H90
              refine fin ?_
              refine then_n ?_
              refine cnd_t H90 rfl ?_
              refine wp_seq ?_
              refine reg ?_
              refine plain (y_build rfl z_zeroN38 z_places38 rfl lay_n) rfl rfl rfl H90 ?_
              clear H90; intro a92 H92
              refine st_storeN rfl z_size38 rfl rfl (agg_cells _) (by repeat (first | exact Uh | apply Ut)) (q_one_c8b32b32c4 rfl rfl rfl rfl rfl rfl rfl rfl rfl rfl rfl rfl) (q_len_c8b32b32c4 (by assumption) (by assumption)) (q_len_c8b32b32c4 (by assumption) (by assumption)) (q_spl_c8b32b32c4_0_c8b32b32c4 (by assumption) (by assumption) (by assumption) (by assumption)) (by decide) rfl rfl H92 ?_
              clear H92; intro wx93 H93
              refine plain (y_assign rfl rfl) rfl rfl rfl H93 ?_
              clear H93; intro a94 H94
              refine plain (y_assign rfl rfl) rfl rfl rfl H94 ?_
              clear H94; intro a95 H95
              refine fin ?_
              refine then_n ?_
              refine wp_ret ?_
              refine then_r ?_
              -- return 3
              refine retctt rfl H95 rfl z_agg38 z_size38 (by repeat (first | exact Mh | apply Mt)) (q_len_c8b32b32c4 (by assumption) (by assumption)) rfl rfl ?_
              first | (have hz := hnr; rw [Pool.put_bad hnr]; exact ⟨_, _, rfl, ⟨rfl, (.slice A L.length cc), rfl⟩, H95.sep.sub (by repeat (first | exact S1 | exact S0 | apply S2 | apply S3))⟩) | (have hz := hnfz; have hsx := H95.sep.sub (l' := [It.row _ 76 (.slice A5 (Pool.ins (Pool.left size L) x).length c5) _ _, It.blk xp _ [i64 size, (.slice A5 (Pool.ins (Pool.left size L) x).length c5)]]) (by repeat (first | exact S1 | exact S0 | apply S2 | apply S3)); by_cases hgz : (L.length : Int) = size; (rw [(Pool.left_yes hgz).1] at hsx; rw [(Pool.left_yes hgz).2, Pool.put_gone (p := ⟨size, L⟩) hrt hnt (by dsimp only; omega) (hnfz hgz)]; exact ⟨_, _, rfl, ⟨by rw [decide_eq_true hgz]; rfl, _, rfl⟩, hsx⟩); (rw [(Pool.left_no hgz).1] at hsx; rw [(Pool.left_no hgz).2, Pool.put_room (p := ⟨size, L⟩) hrt hnt (by dsimp only; omega)]; exact ⟨_, _, rfl, ⟨by rw [decide_eq_false hgz]; rfl, _, rfl⟩, hsx⟩)) | (have hz := hful; rw [Pool.put_full (p := ⟨size, L⟩) hrt hnt (by dsimp only; omega) (by dsimp only; omega)]; exact ⟨_, _, rfl, ⟨rfl, (.slice A L.length cc), rfl⟩, H95.sep.sub (by repeat (first | exact S1 | exact S0 | apply S2 | apply S3))⟩) | (rw [Pool.put_twice (p := ⟨size, L⟩) hrt ⟨_, Pool.mem_getD hkl, by first | exact .inl (by assumption) | exact .inr ⟨by assumption, by assumption⟩⟩]; exact ⟨_, _, rfl, ⟨rfl, (.slice A L.length cc), rfl⟩, H95.sep.sub (by repeat (first | exact S1 | exact S0 | apply S2 | apply S3))⟩)
          · first
            | fail
            | skip
              clear H77; intro H96
              try simp only [decide_eq_true_eq, decide_eq_false_iff_not, Bool.not_eq_true', Bool.not_eq_false', Bool.and_eq_true, Bool.not_eq_true, Bool.not_eq_false] at hg78
              have hk2 := Decidable.not_not.1 hg78
              refine plain (y_fieldB rfl z_field38_3 rfl (by first | (simp only [Nat.zero_add, Nat.add_zero, Nat.reduceAdd]; rfl) | rfl)) rfl rfl rfl H96 ?_
              clear H96; intro a97 H97
              refine plain (y_loadB rfl z_agg3 rfl (by repeat (first | exact Mh | apply Mt)) (q_ix_c8b32b32c4_74 (by assumption) (by assumption))) rfl rfl rfl H97 ?_
              clear H97; intro a98 H98
              refine st_callg rfl z_call30 rfl rfl rfl rfl H98 (rwin18 _ _) ?_
              clear H98; intro a99 wx99 H99
              refine plain ((by first | exact y_not_d rfl rfl | exact y_not rfl rfl)) rfl rfl rfl H99 ?_
              clear H99; intro a100 H100
              refine plain (y_pick_f rfl rfl rfl) rfl rfl rfl H100 ?_
              clear H100; intro a101 H101
              refine plain (y_move rfl rfl) rfl rfl rfl H101 ?_
              clear H101; intro a102 H102
              refine Sx.part (d := 37) H102 rfl (fun hg103 => ?_) (fun hg103 => ?_)
              · first
                | fail
                | skip
                  clear H102; intro H104
                  try simp only [decide_eq_true_eq, decide_eq_false_iff_not, Bool.not_eq_true', Bool.not_eq_false', Bool.and_eq_true, Bool.not_eq_true, Bool.not_eq_false] at hg103
                  have hnr : ¬ Pool.right x := fun z => by first | exact hg103 z.2.2.2.1 | contradiction
                  refine skip rfl rfl rfl H104 ?_
                  clear H104; intro a105 H105
                  refine skip rfl rfl rfl H105 ?_
                  clear H105; intro a106 H106
                  refine skip rfl rfl rfl H106 ?_
                  clear H106; intro a107 H107
                  refine skip rfl rfl rfl H107 ?_
                  clear H107; intro a108 H108
                  refine plain (y_pick_t rfl rfl rfl) rfl rfl rfl H108 ?_
                  clear H108; intro a109 H109
                  refine fin ?_
                  refine then_n ?_
                  refine cnd_t H109 rfl ?_
                  refine wp_seq ?_
                  refine reg ?_
                  refine plain (y_build rfl z_zeroN38 z_places38 rfl lay_n) rfl rfl rfl H109 ?_
                  clear H109; intro a111 H111
                  refine st_storeN rfl z_size38 rfl rfl (agg_cells _) (by repeat (first | exact Uh | apply Ut)) (q_one_c8b32b32c4 rfl rfl rfl rfl rfl rfl rfl rfl rfl rfl rfl rfl) (q_len_c8b32b32c4 (by assumption) (by assumption)) (q_len_c8b32b32c4 (by assumption) (by assumption)) (q_spl_c8b32b32c4_0_c8b32b32c4 (by assumption) (by assumption) (by assumption) (by assumption)) (by decide) rfl rfl H111 ?_
                  clear H111; intro wx112 H112
                  refine plain (y_assign rfl rfl) rfl rfl rfl H112 ?_
                  clear H112; intro a113 H113
                  refine plain (y_assign rfl rfl) rfl rfl rfl H113 ?_
                  clear H113; intro a114 H114
                  refine fin ?_
                  refine then_n ?_
                  refine wp_ret ?_
                  refine then_r ?_
                  -- return 4
                  refine retctt rfl H114 rfl z_agg38 z_size38 (by repeat (first | exact Mh | apply Mt)) (q_len_c8b32b32c4 (by assumption) (by assumption)) rfl rfl ?_
                  first | (have hz := hnr; rw [Pool.put_bad hnr]; exact ⟨_, _, rfl, ⟨rfl, (.slice A L.length cc), rfl⟩, H114.sep.sub (by repeat (first | exact S1 | exact S0 | apply S2 | apply S3))⟩) | (have hz := hnfz; have hsx := H114.sep.sub (l' := [It.row _ 76 (.slice A5 (Pool.ins (Pool.left size L) x).length c5) _ _, It.blk xp _ [i64 size, (.slice A5 (Pool.ins (Pool.left size L) x).length c5)]]) (by repeat (first | exact S1 | exact S0 | apply S2 | apply S3)); by_cases hgz : (L.length : Int) = size; (rw [(Pool.left_yes hgz).1] at hsx; rw [(Pool.left_yes hgz).2, Pool.put_gone (p := ⟨size, L⟩) hrt hnt (by dsimp only; omega) (hnfz hgz)]; exact ⟨_, _, rfl, ⟨by rw [decide_eq_true hgz]; rfl, _, rfl⟩, hsx⟩); (rw [(Pool.left_no hgz).1] at hsx; rw [(Pool.left_no hgz).2, Pool.put_room (p := ⟨size, L⟩) hrt hnt (by dsimp only; omega)]; exact ⟨_, _, rfl, ⟨by rw [decide_eq_false hgz]; rfl, _, rfl⟩, hsx⟩)) | (have hz := hful; rw [Pool.put_full (p := ⟨size, L⟩) hrt hnt (by dsimp only; omega) (by dsimp only; omega)]; exact ⟨_, _, rfl, ⟨rfl, (.slice A L.length cc), rfl⟩, H114.sep.sub (by repeat (first | exact S1 | exact S0 | apply S2 | apply S3))⟩) | (rw [Pool.put_twice (p := ⟨size, L⟩) hrt ⟨_, Pool.mem_getD hkl, by first | exact .inl (by assumption) | exact .inr ⟨by assumption, by assumption⟩⟩]; exact ⟨_, _, rfl, ⟨rfl, (.slice A L.length cc), rfl⟩, H114.sep.sub (by repeat (first | exact S1 | exact S0 | apply S2 | apply S3))⟩)
              · first
                | fail
                | skip
                  clear H102; intro H115
                  try simp only [decide_eq_true_eq, decide_eq_false_iff_not, Bool.not_eq_true', Bool.not_eq_false', Bool.and_eq_true, Bool.not_eq_true, Bool.not_eq_false] at hg103
                  have hk3 := Decidable.not_not.1 hg103
                  refine plain (y_fieldB rfl z_field38_4 rfl (by first | (simp only [Nat.zero_add, Nat.add_zero, Nat.reduceAdd]; rfl) | rfl)) rfl rfl rfl H115 ?_
                  clear H115; intro a116 H116
                  refine plain (y_loadB rfl z_agg3 rfl (by repeat (first | exact Mh | apply Mt)) (q_ix_c8b32b32c4_75 (by assumption) (by assumption))) rfl rfl rfl H116 ?_
                  clear H116; intro a117 H117
                  refine st_callg rfl z_call30 rfl rfl rfl rfl H117 (rwin18 _ _) ?_
                  clear H117; intro a118 wx118 H118
                  refine plain ((by first | exact y_not_d rfl rfl | exact y_not rfl rfl)) rfl rfl rfl H118 ?_
                  clear H118; intro a119 H119
                  refine plain (y_pick_f rfl rfl rfl) rfl rfl rfl H119 ?_
                  clear H119; intro a120 H120
                  refine fin ?_
                  refine then_n ?_
                  refine cnd H120 rfl (fun hc121 => ?_) (fun hc121 => ?_) -- cond 5
                  · skip
                    try simp only [decide_eq_true_eq, decide_eq_false_iff_not, Bool.not_eq_true', Bool.not_eq_false', Bool.and_eq_true, Bool.not_eq_true, Bool.not_eq_false] at hc121
                    have hnr : ¬ Pool.right x := fun z => hc121 z.2.2.2.2
                    refine wp_seq ?_
                    refine reg ?_
                    refine plain (y_build rfl z_zeroN38 z_places38 rfl lay_n) rfl rfl rfl H120 ?_
                    clear H120; intro a122 H122
                    refine st_storeN rfl z_size38 rfl rfl (agg_cells _) (by repeat (first | exact Uh | apply Ut)) (q_one_c8b32b32c4 rfl rfl rfl rfl rfl rfl rfl rfl rfl rfl rfl rfl) (q_len_c8b32b32c4 (by assumption) (by assumption)) (q_len_c8b32b32c4 (by assumption) (by assumption)) (q_spl_c8b32b32c4_0_c8b32b32c4 (by assumption) (by assumption) (by assumption) (by assumption)) (by decide) rfl rfl H122 ?_
                    clear H122; intro wx123 H123
                    refine plain (y_assign rfl rfl) rfl rfl rfl H123 ?_
                    clear H123; intro a124 H124
                    refine plain (y_assign rfl rfl) rfl rfl rfl H124 ?_
                    clear H124; intro a125 H125
                    refine fin ?_
                    refine then_n ?_
                    refine wp_ret ?_
                    refine then_r ?_
                    -- return 5
                    refine retctt rfl H125 rfl z_agg38 z_size38 (by repeat (first | exact Mh | apply Mt)) (q_len_c8b32b32c4 (by assumption) (by assumption)) rfl rfl ?_
                    first | (have hz := hnr; rw [Pool.put_bad hnr]; exact ⟨_, _, rfl, ⟨rfl, (.slice A L.length cc), rfl⟩, H125.sep.sub (by repeat (first | exact S1 | exact S0 | apply S2 | apply S3))⟩) | (have hz := hnfz; have hsx := H125.sep.sub (l' := [It.row _ 76 (.slice A5 (Pool.ins (Pool.left size L) x).length c5) _ _, It.blk xp _ [i64 size, (.slice A5 (Pool.ins (Pool.left size L) x).length c5)]]) (by repeat (first | exact S1 | exact S0 | apply S2 | apply S3)); by_cases hgz : (L.length : Int) = size; (rw [(Pool.left_yes hgz).1] at hsx; rw [(Pool.left_yes hgz).2, Pool.put_gone (p := ⟨size, L⟩) hrt hnt (by dsimp only; omega) (hnfz hgz)]; exact ⟨_, _, rfl, ⟨by rw [decide_eq_true hgz]; rfl, _, rfl⟩, hsx⟩); (rw [(Pool.left_no hgz).1] at hsx; rw [(Pool.left_no hgz).2, Pool.put_room (p := ⟨size, L⟩) hrt hnt (by dsimp only; omega)]; exact ⟨_, _, rfl, ⟨by rw [decide_eq_false hgz]; rfl, _, rfl⟩, hsx⟩)) | (have hz := hful; rw [Pool.put_full (p := ⟨size, L⟩) hrt hnt (by dsimp only; omega) (by dsimp only; omega)]; exact ⟨_, _, rfl, ⟨rfl, (.slice A L.length cc), rfl⟩, H125.sep.sub (by repeat (first | exact S1 | exact S0 | apply S2 | apply S3))⟩) | (rw [Pool.put_twice (p := ⟨size, L⟩) hrt ⟨_, Pool.mem_getD hkl, by first | exact .inl (by assumption) | exact .inr ⟨by assumption, by assumption⟩⟩]; exact ⟨_, _, rfl, ⟨rfl, (.slice A L.length cc), rfl⟩, H125.sep.sub (by repeat (first | exact S1 | exact S0 | apply S2 | apply S3))⟩)
                  · skip
                    try simp only [decide_eq_true_eq, decide_eq_false_iff_not, Bool.not_eq_true', Bool.not_eq_false', Bool.and_eq_true, Bool.not_eq_true, Bool.not_eq_false] at hc121
                    have hrt : Pool.right x := ⟨hk0, hk1, hk2, hk3, Decidable.not_not.1 hc121⟩
                    refine wp_skip ?_
                    refine then_n ?_
                    refine wp_seq ?_
                    refine wp_seq ?_
                    refine reg ?_
                    refine plain (y_assign rfl rfl) rfl rfl rfl H120 ?_
                    clear H120; intro a126 H126
                    refine fin ?_
                    refine then_n ?_
                    refine wp_block ?_
                    refine loop (ι := Nat) (fun k => [(0, .pointer (some ⟨xp, 0, none⟩)), (3, .pointer (some ⟨b1, 0, none⟩)), (4, .pointer (some ⟨b2, 0, none⟩)), (5, .bool false), (6, .int .i64 0), (7, .int .i64 (k : Int))]) (fun k => [It.blk b2 38 (Pool.Wait.cells Pool.Wait.zero), It.blk b1 38 (Pool.Wait.cells x), It.row 38 76 (.slice A L.length cc) L.length (Pool.wc L), It.blk xp 32 [i64 size, (.slice A L.length cc)]]) (fun k => k ≤ L.length ∧ ∀ j, j < k → ¬ Pool.meets (L.getD j Pool.Wait.zero) x) (fun k => L.length - k) (0) ⟨Nat.zero_le _, fun j hj => absurd hj (by omega)⟩ (H126.weak ⟨rfl, rfl, rfl, rfl, rfl, rfl, trivial⟩ rfl) ?_
                    clear H126; intro k a127 wx127 hok127 H127
                    obtain ⟨hok, hnm⟩ := hok127
                    refine wp_seq ?_
                    refine wp_seq ?_
                    refine reg ?_
                    refine plain (y_move rfl rfl) rfl rfl rfl H127 ?_
                    clear H127; intro a128 H128
                    refine plain (y_move rfl rfl) rfl rfl rfl H128 ?_
                    clear H128; intro a129 H129
                    refine plain (y_nilCheck rfl rfl) rfl rfl rfl H129 ?_
                    clear H129; intro a130 H130
                    refine plain (y_fieldB rfl z_field32_1 rfl (by first | (simp only [Nat.zero_add, Nat.add_zero, Nat.reduceAdd]; rfl) | rfl)) rfl rfl rfl H130 ?_
                    clear H130; intro a131 H131
                    refine plain (y_loadB rfl z_agg30 rfl (by repeat (first | exact Mh | apply Mt)) q_ix_c2_1) rfl rfl rfl H131 ?_
                    clear H131; intro a132 H132
                    refine plain (y_len rfl Try.underlying30 rfl) rfl rfl rfl H132 ?_
                    clear H132; intro a133 H133
                    refine plain (y_lss rfl rfl rfl) rfl rfl rfl H133 ?_
                    clear H133; intro a134 H134
                    refine fin ?_
                    refine then_n ?_
                    refine cnd H134 rfl (fun hc135 => ?_) (fun hc135 => ?_) -- cond 6
                    · skip
                      try simp only [decide_eq_true_eq, decide_eq_false_iff_not, Bool.not_eq_true', Bool.not_eq_false', Bool.and_eq_true, Bool.not_eq_true, Bool.not_eq_false] at hc135
                      refine wp_skip ?_
                      refine then_n ?_
                      refine wp_seq ?_
                      refine wp_block ?_
                      refine wp_seq ?_
                      have hkl : k < L.length := by omega
                      have hwk := hL.at_ hkl
                      have whd := hwk.tx.hand
                      have wtg := hwk.tx.tag
                      refine reg ?_
                      refine plain (y_move rfl rfl) rfl rfl rfl H134 ?_
                      clear H134; intro a136 H136
                      refine plain (y_nilCheck rfl rfl) rfl rfl rfl H136 ?_
                      clear H136; intro a137 H137
                      refine plain (y_fieldB rfl z_field32_1 rfl (by first | (simp only [Nat.zero_add, Nat.add_zero, Nat.reduceAdd]; rfl) | rfl)) rfl rfl rfl H137 ?_
                      clear H137; intro a138 H138
                      refine plain (y_loadB rfl z_agg30 rfl (by repeat (first | exact Mh | apply Mt)) q_ix_c2_1) rfl rfl rfl H138 ?_
                      clear H138; intro a139 H139
                      refine plain (y_move rfl rfl) rfl rfl rfl H139 ?_
                      clear H139; intro a140 H140
                      refine plain (y_ixR rfl Try.underlying30 z_size38 rfl rfl (by omega) (by omega) (rd_row (by repeat (first | exact Mh | apply Mt))) (by first | (rw [Pool.wc_len hL]; omega) | (rw [Pool.wc_len hLL]; omega))) rfl rfl rfl H140 ?_
                      clear H140; intro a141 H141
                      refine plain (y_loadAS rfl z_agg38 z_size38 rfl (rd_row (by repeat (first | exact Mh | apply Mt))) (show _ = Pool.Wait.cells (L.getD k Pool.Wait.zero) from Pool.wc_take hL k hkl) hwk.len (by decide)) rfl rfl rfl H141 ?_
                      clear H141; intro a142 H142
                      refine st_alloc rfl z_zeroN38 rfl rfl rfl H142 ?_
                      clear H142; intro b143 a143 wx143 H143
                      refine st_storeN rfl z_size38 rfl rfl (agg_cells _) (by repeat (first | exact Uh | apply Ut)) (q_one_c8b32b32c4 rfl rfl rfl rfl rfl rfl rfl rfl rfl rfl rfl rfl) (q_len_c8b32b32c4 (by assumption) (by assumption)) (q_len_c8b32b32c4 (by assumption) (by assumption)) (q_spl_c8b32b32c4_0_c8b32b32c4 (by assumption) (by assumption) (by assumption) (by assumption)) (by decide) rfl rfl H143 ?_
                      clear H143; intro wx144 H144
                      refine fin ?_
                      refine then_n ?_
                      refine wp_seq ?_
                      refine reg ?_
                      refine plain (y_fieldB rfl z_field38_1 rfl (by first | (simp only [Nat.zero_add, Nat.add_zero, Nat.reduceAdd]; rfl) | rfl)) rfl rfl rfl H144 ?_
                      clear H144; intro a145 H145
                      refine plain (y_loadB rfl z_agg3 rfl (by repeat (first | exact Mh | apply Mt)) (q_ix_c8b32b32c4_72 (by assumption) (by assumption))) rfl rfl rfl H145 ?_
                      clear H145; intro a146 H146
                      refine plain (y_fieldB rfl z_field38_1 rfl (by first | (simp only [Nat.zero_add, Nat.add_zero, Nat.reduceAdd]; rfl) | rfl)) rfl rfl rfl H146 ?_
                      clear H146; intro a147 H147
                      refine plain (y_loadB rfl z_agg3 rfl (by repeat (first | exact Mh | apply Mt)) (q_ix_c8b32b32c4_72 (by assumption) (by assumption))) rfl rfl rfl H147 ?_
                      clear H147; intro a148 H148
                      refine plain (y_eql rfl rfl rfl) rfl rfl rfl H148 ?_
                      clear H148; intro a149 H149
                      refine plain (y_move rfl rfl) rfl rfl rfl H149 ?_
                      clear H149; intro a150 H150
                      refine Sx.part (d := 65) H150 rfl (fun hg151 => ?_) (fun hg151 => ?_)
                      · first
                        | fail
                        | skip
                          clear H150; intro H152
                          try simp only [decide_eq_true_eq, decide_eq_false_iff_not, Bool.not_eq_true', Bool.not_eq_false', Bool.and_eq_true, Bool.not_eq_true, Bool.not_eq_false] at hg151
                          refine skip rfl rfl rfl H152 ?_
                          clear H152; intro a153 H153
                          refine skip rfl rfl rfl H153 ?_
                          clear H153; intro a154 H154
                          refine skip rfl rfl rfl H154 ?_
                          clear H154; intro a155 H155
                          refine skip rfl rfl rfl H155 ?_
                          clear H155; intro a156 H156
                          refine skip rfl rfl rfl H156 ?_
                          clear H156; intro a157 H157
                          refine skip rfl rfl rfl H157 ?_
                          clear H157; intro a158 H158
                          refine skip rfl rfl rfl H158 ?_
                          clear H158; intro a159 H159
                          refine skip rfl rfl rfl H159 ?_
                          clear H159; intro a160 H160
                          refine skip rfl rfl rfl H160 ?_
                          clear H160; intro a161 H161
                          refine skip rfl rfl rfl H161 ?_
                          clear H161; intro a162 H162
                          refine skip rfl rfl rfl H162 ?_
                          clear H162; intro a163 H163
                          refine skip rfl rfl rfl H163 ?_
                          clear H163; intro a164 H164
                          refine skip rfl rfl rfl H164 ?_
                          clear H164; intro a165 H165
                          refine skip rfl rfl rfl H165 ?_
                          clear H165; intro a166 H166
                          refine skip rfl rfl rfl H166 ?_
                          clear H166; intro a167 H167
                          refine skip rfl rfl rfl H167 ?_
                          clear H167; intro a168 H168
                          refine plain (y_pick_t rfl rfl rfl) rfl rfl rfl H168 ?_
                          clear H168; intro a169 H169
                          refine fin ?_
                          refine then_n ?_
                          refine cnd_t H169 rfl ?_
                          refine wp_seq ?_
                          refine reg ?_
                          refine plain (y_build rfl z_zeroN38 z_places38 rfl lay_n) rfl rfl rfl H169 ?_
                          clear H169; intro a171 H171
                          refine st_storeN rfl z_size38 rfl rfl (agg_cells _) (by repeat (first | exact Uh | apply Ut)) (q_one_c8b32b32c4 rfl rfl rfl rfl rfl rfl rfl rfl rfl rfl rfl rfl) (q_len_c8b32b32c4 (by assumption) (by assumption)) (q_len_c8b32b32c4 (by assumption) (by assumption)) (q_spl_c8b32b32c4_0_c8b32b32c4 (by assumption) (by assumption) (by assumption) (by assumption)) (by decide) rfl rfl H171 ?_
                          clear H171; intro wx172 H172
                          refine plain (y_assign rfl rfl) rfl rfl rfl H172 ?_
                          clear H172; intro a173 H173
                          refine plain (y_assign rfl rfl) rfl rfl rfl H173 ?_
                          clear H173; intro a174 H174
                          refine fin ?_
                          refine then_n ?_
                          refine wp_ret ?_
                          refine inb_r ?_
                          refine then_r ?_
                          refine then_r ?_
                          refine inb_r ?_
                          refine then_r ?_
                          -- return 6
                          refine retctt rfl H174 rfl z_agg38 z_size38 (by repeat (first | exact Mh | apply Mt)) (q_len_c8b32b32c4 (by assumption) (by assumption)) rfl rfl ?_
                          first | (have hz := hnr; rw [Pool.put_bad hnr]; exact ⟨_, _, rfl, ⟨rfl, (.slice A L.length cc), rfl⟩, H174.sep.sub (by repeat (first | exact S1 | exact S0 | apply S2 | apply S3))⟩) | (have hz := hnfz; have hsx := H174.sep.sub (l' := [It.row _ 76 (.slice A5 (Pool.ins (Pool.left size L) x).length c5) _ _, It.blk xp _ [i64 size, (.slice A5 (Pool.ins (Pool.left size L) x).length c5)]]) (by repeat (first | exact S1 | exact S0 | apply S2 | apply S3)); by_cases hgz : (L.length : Int) = size; (rw [(Pool.left_yes hgz).1] at hsx; rw [(Pool.left_yes hgz).2, Pool.put_gone (p := ⟨size, L⟩) hrt hnt (by dsimp only; omega) (hnfz hgz)]; exact ⟨_, _, rfl, ⟨by rw [decide_eq_true hgz]; rfl, _, rfl⟩, hsx⟩); (rw [(Pool.left_no hgz).1] at hsx; rw [(Pool.left_no hgz).2, Pool.put_room (p := ⟨size, L⟩) hrt hnt (by dsimp only; omega)]; exact ⟨_, _, rfl, ⟨by rw [decide_eq_false hgz]; rfl, _, rfl⟩, hsx⟩)) | (have hz := hful; rw [Pool.put_full (p := ⟨size, L⟩) hrt hnt (by dsimp only; omega) (by dsimp only; omega)]; exact ⟨_, _, rfl, ⟨rfl, (.slice A L.length cc), rfl⟩, H174.sep.sub (by repeat (first | exact S1 | exact S0 | apply S2 | apply S3))⟩) | (rw [Pool.put_twice (p := ⟨size, L⟩) hrt ⟨_, Pool.mem_getD hkl, by first | exact .inl (by assumption) | exact .inr ⟨by assumption, by assumption⟩⟩]; exact ⟨_, _, rfl, ⟨rfl, (.slice A L.length cc), rfl⟩, H174.sep.sub (by repeat (first | exact S1 | exact S0 | apply S2 | apply S3))⟩)
                      · first
                        | fail
                        | skip
                          clear H150; intro H175
                          try simp only [decide_eq_true_eq, decide_eq_false_iff_not, Bool.not_eq_true', Bool.not_eq_false', Bool.and_eq_true, Bool.not_eq_true, Bool.not_eq_false] at hg151
                          refine plain (y_fieldB rfl z_field38_0 rfl (by first | (simp only [Nat.zero_add, Nat.add_zero, Nat.reduceAdd]; rfl) | rfl)) rfl rfl rfl H175 ?_
                          clear H175; intro a176 H176
                          refine plain (y_fieldB rfl z_field36_0 rfl (by first | (simp only [Nat.zero_add, Nat.add_zero, Nat.reduceAdd]; rfl) | rfl)) rfl rfl rfl H176 ?_
                          clear H176; intro a177 H177
                          refine plain (y_loadB rfl z_agg3 rfl (by repeat (first | exact Mh | apply Mt)) q_ix_c8b32b32c4_0) rfl rfl rfl H177 ?_
                          clear H177; intro a178 H178
                          refine plain (y_fieldB rfl z_field38_0 rfl (by first | (simp only [Nat.zero_add, Nat.add_zero, Nat.reduceAdd]; rfl) | rfl)) rfl rfl rfl H178 ?_
                          clear H178; intro a179 H179
                          refine plain (y_fieldB rfl z_field36_0 rfl (by first | (simp only [Nat.zero_add, Nat.add_zero, Nat.reduceAdd]; rfl) | rfl)) rfl rfl rfl H179 ?_
                          clear H179; intro a180 H180
                          refine plain (y_loadB rfl z_agg3 rfl (by repeat (first | exact Mh | apply Mt)) q_ix_c8b32b32c4_0) rfl rfl rfl H180 ?_
                          clear H180; intro a181 H181
                          refine plain (y_eql rfl rfl rfl) rfl rfl rfl H181 ?_
                          clear H181; intro a182 H182
                          refine plain (y_move rfl rfl) rfl rfl rfl H182 ?_
                          clear H182; intro a183 H183
                          refine Sx.part (d := 73) H183 rfl (fun hg184 => ?_) (fun hg184 => ?_)
                          · first
                            | fail
                            | skip
                              clear H183; intro H185
                              try simp only [decide_eq_true_eq, decide_eq_false_iff_not, Bool.not_eq_true', Bool.not_eq_false', Bool.and_eq_true, Bool.not_eq_true, Bool.not_eq_false] at hg184
                              refine plain (y_fieldB rfl z_field38_0 rfl (by first | (simp only [Nat.zero_add, Nat.add_zero, Nat.reduceAdd]; rfl) | rfl)) rfl rfl rfl H185 ?_
                              clear H185; intro a186 H186
                              refine plain (y_fieldB rfl z_field36_1 rfl (by first | (simp only [Nat.zero_add, Nat.add_zero, Nat.reduceAdd]; rfl) | rfl)) rfl rfl rfl H186 ?_
                              clear H186; intro a187 H187
                              refine plain (y_loadB rfl z_agg3 rfl (by repeat (first | exact Mh | apply Mt)) q_ix_c8b32b32c4_1) rfl rfl rfl H187 ?_
                              clear H187; intro a188 H188
                              refine plain (y_fieldB rfl z_field38_0 rfl (by first | (simp only [Nat.zero_add, Nat.add_zero, Nat.reduceAdd]; rfl) | rfl)) rfl rfl rfl H188 ?_
                              clear H188; intro a189 H189
                              refine plain (y_fieldB rfl z_field36_1 rfl (by first | (simp only [Nat.zero_add, Nat.add_zero, Nat.reduceAdd]; rfl) | rfl)) rfl rfl rfl H189 ?_
                              clear H189; intro a190 H190
                              refine plain (y_loadB rfl z_agg3 rfl (by repeat (first | exact Mh | apply Mt)) q_ix_c8b32b32c4_1) rfl rfl rfl H190 ?_
                              clear H190; intro a191 H191
                              refine plain (y_eql rfl rfl rfl) rfl rfl rfl H191 ?_
                              clear H191; intro a192 H192
                              refine plain (y_pick_t rfl rfl rfl) rfl rfl rfl H192 ?_
                              clear H192; intro a193 H193
                              refine plain (y_pick_f rfl rfl rfl) rfl rfl rfl H193 ?_
                              clear H193; intro a194 H194
                              refine fin ?_
                              refine then_n ?_
                              refine cnd H194 rfl (fun hc195 => ?_) (fun hc195 => ?_) -- cond 8
                              · skip
                                try simp only [decide_eq_true_eq, decide_eq_false_iff_not, Bool.not_eq_true', Bool.not_eq_false', Bool.and_eq_true, Bool.not_eq_true, Bool.not_eq_false] at hc195
                                refine wp_seq ?_
                                refine reg ?_
                                refine plain (y_build rfl z_zeroN38 z_places38 rfl lay_n) rfl rfl rfl H194 ?_
                                clear H194; intro a196 H196
                                refine st_storeN rfl z_size38 rfl rfl (agg_cells _) (by repeat (first | exact Uh | apply Ut)) (q_one_c8b32b32c4 rfl rfl rfl rfl rfl rfl rfl rfl rfl rfl rfl rfl) (q_len_c8b32b32c4 (by assumption) (by assumption)) (q_len_c8b32b32c4 (by assumption) (by assumption)) (q_spl_c8b32b32c4_0_c8b32b32c4 (by assumption) (by assumption) (by assumption) (by assumption)) (by decide) rfl rfl H196 ?_
                                clear H196; intro wx197 H197
                                refine plain (y_assign rfl rfl) rfl rfl rfl H197 ?_
                                clear H197; intro a198 H198
                                refine plain (y_assign rfl rfl) rfl rfl rfl H198 ?_
                                clear H198; intro a199 H199
                                refine fin ?_
                                refine then_n ?_
                                refine wp_ret ?_
                                refine inb_r ?_
                                refine then_r ?_
                                refine then_r ?_
                                refine inb_r ?_
                                refine then_r ?_
                                -- return 7
                                refine retctt rfl H199 rfl z_agg38 z_size38 (by repeat (first | exact Mh | apply Mt)) (q_len_c8b32b32c4 (by assumption) (by assumption)) rfl rfl ?_
                                first | (have hz := hnr; rw [Pool.put_bad hnr]; exact ⟨_, _, rfl, ⟨rfl, (.slice A L.length cc), rfl⟩, H199.sep.sub (by repeat (first | exact S1 | exact S0 | apply S2 | apply S3))⟩) | (have hz := hnfz; have hsx := H199.sep.sub (l' := [It.row _ 76 (.slice A5 (Pool.ins (Pool.left size L) x).length c5) _ _, It.blk xp _ [i64 size, (.slice A5 (Pool.ins (Pool.left size L) x).length c5)]]) (by repeat (first | exact S1 | exact S0 | apply S2 | apply S3)); by_cases hgz : (L.length : Int) = size; (rw [(Pool.left_yes hgz).1] at hsx; rw [(Pool.left_yes hgz).2, Pool.put_gone (p := ⟨size, L⟩) hrt hnt (by dsimp only; omega) (hnfz hgz)]; exact ⟨_, _, rfl, ⟨by rw [decide_eq_true hgz]; rfl, _, rfl⟩, hsx⟩); (rw [(Pool.left_no hgz).1] at hsx; rw [(Pool.left_no hgz).2, Pool.put_room (p := ⟨size, L⟩) hrt hnt (by dsimp only; omega)]; exact ⟨_, _, rfl, ⟨by rw [decide_eq_false hgz]; rfl, _, rfl⟩, hsx⟩)) | (have hz := hful; rw [Pool.put_full (p := ⟨size, L⟩) hrt hnt (by dsimp only; omega) (by dsimp only; omega)]; exact ⟨_, _, rfl, ⟨rfl, (.slice A L.length cc), rfl⟩, H199.sep.sub (by repeat (first | exact S1 | exact S0 | apply S2 | apply S3))⟩) | (rw [Pool.put_twice (p := ⟨size, L⟩) hrt ⟨_, Pool.mem_getD hkl, by first | exact .inl (by assumption) | exact .inr ⟨by assumption, by assumption⟩⟩]; exact ⟨_, _, rfl, ⟨rfl, (.slice A L.length cc), rfl⟩, H199.sep.sub (by repeat (first | exact S1 | exact S0 | apply S2 | apply S3))⟩)
                              · skip
                                try simp only [decide_eq_true_eq, decide_eq_false_iff_not, Bool.not_eq_true', Bool.not_eq_false', Bool.and_eq_true, Bool.not_eq_true, Bool.not_eq_false] at hc195
                                refine wp_skip ?_
                                refine inb_n ?_
                                refine then_n ?_
                                refine reg ?_
                                refine plain (y_move rfl rfl) rfl rfl rfl H194 ?_
                                clear H194; intro a200 H200
                                refine plain (y_add rfl rfl rfl (by first | exact w64 (by omega) (by omega) | rfl)) rfl rfl rfl H200 ?_
                                clear H200; intro a201 H201
                                refine plain (y_assign rfl rfl) rfl rfl rfl H201 ?_
                                clear H201; intro a202 H202
                                refine fin ?_
                                refine then_n ?_
                                have hnk : ¬ Pool.meets (L.getD k Pool.Wait.zero) x := fun z => by (rcases z with z | z <;> first | contradiction | omega | exact absurd z.1 (by assumption) | exact absurd z.2 (by assumption))
                                refine ⟨k + 1, by omega, ⟨by omega, fun j hj => ?_⟩, (H202.drop (List.Sublist.cons _ (List.Sublist.refl _))).weak ⟨rfl, rfl, rfl, rfl, rfl, fi rfl (by omega), trivial⟩ rfl⟩
                                by_cases e : j = k
                                · subst e; exact hnk
                                · exact hnm j (by omega)
                          · first
                            | fail
                            | skip
                              clear H183; intro H203
                              try simp only [decide_eq_true_eq, decide_eq_false_iff_not, Bool.not_eq_true', Bool.not_eq_false', Bool.and_eq_true, Bool.not_eq_true, Bool.not_eq_false] at hg184
                              refine skip rfl rfl rfl H203 ?_
                              clear H203; intro a204 H204
                              refine skip rfl rfl rfl H204 ?_
                              clear H204; intro a205 H205
                              refine skip rfl rfl rfl H205 ?_
                              clear H205; intro a206 H206
                              refine skip rfl rfl rfl H206 ?_
                              clear H206; intro a207 H207
                              refine skip rfl rfl rfl H207 ?_
                              clear H207; intro a208 H208
                              refine skip rfl rfl rfl H208 ?_
                              clear H208; intro a209 H209
                              refine skip rfl rfl rfl H209 ?_
                              clear H209; intro a210 H210
                              refine plain (y_pick_f rfl rfl rfl) rfl rfl rfl H210 ?_
                              clear H210; intro a211 H211
                              refine plain (y_pick_f rfl rfl rfl) rfl rfl rfl H211 ?_
                              clear H211; intro a212 H212
                              refine fin ?_
                              refine then_n ?_
                              refine cnd_f H212 rfl ?_
                              refine wp_skip ?_
                              refine inb_n ?_
                              refine then_n ?_
                              refine reg ?_
                              refine plain (y_move rfl rfl) rfl rfl rfl H212 ?_
                              clear H212; intro a214 H214
                              refine plain (y_add rfl rfl rfl (by first | exact w64 (by omega) (by omega) | rfl)) rfl rfl rfl H214 ?_
                              clear H214; intro a215 H215
                              refine plain (y_assign rfl rfl) rfl rfl rfl H215 ?_
                              clear H215; intro a216 H216
                              refine fin ?_
                              refine then_n ?_
                              have hnk : ¬ Pool.meets (L.getD k Pool.Wait.zero) x := fun z => by (rcases z with z | z <;> first | contradiction | omega | exact absurd z.1 (by assumption) | exact absurd z.2 (by assumption))
                              refine ⟨k + 1, by omega, ⟨by omega, fun j hj => ?_⟩, (H216.drop (List.Sublist.cons _ (List.Sublist.refl _))).weak ⟨rfl, rfl, rfl, rfl, rfl, fi rfl (by omega), trivial⟩ rfl⟩
                              by_cases e : j = k
                              · subst e; exact hnk
                              · exact hnm j (by omega)
                    · skip
                      try simp only [decide_eq_true_eq, decide_eq_false_iff_not, Bool.not_eq_true', Bool.not_eq_false', Bool.and_eq_true, Bool.not_eq_true, Bool.not_eq_false] at hc135
                      refine wp_exit ?_
                      refine then_x ?_
                      refine then_x ?_
                      refine inb_hit ?_
                      refine then_n ?_
                      refine wp_seq ?_
                      have hnt : ¬ Pool.twice L x := Pool.not_two (by omega) hnm
                      refine reg ?_
                      refine plain (y_build rfl z_zeroN38 z_places38 rfl lay_n) rfl rfl rfl H134 ?_
                      clear H134; intro a217 H217
                      refine st_alloc rfl z_zeroN38 rfl rfl rfl H217 ?_
                      clear H217; intro b218 a218 wx218 H218
                      refine st_storeN rfl z_size38 rfl rfl (agg_cells _) (by repeat (first | exact Uh | apply Ut)) (q_one_c8b32b32c4 rfl rfl rfl rfl rfl rfl rfl rfl rfl rfl rfl rfl) (q_len_c8b32b32c4 (by assumption) (by assumption)) (q_len_c8b32b32c4 (by assumption) (by assumption)) (q_spl_c8b32b32c4_0_c8b32b32c4 (by assumption) (by assumption) (by assumption) (by assumption)) (by decide) rfl rfl H218 ?_
                      clear H218; intro wx219 H219
                      refine fin ?_
                      refine then_n ?_
                      refine wp_seq ?_
                      refine qreg (by kernel_rfl) (by kernel_rfl) H219 ?_
                      have F220 := H219.fr
                      clear H219
                      refine qplain (y_move rfl rfl) rfl rfl rfl F220 ?_
                      clear F220; intro a221 H221
                      refine qplain (y_nilCheck rfl rfl) rfl rfl rfl H221 ?_
                      clear H221; intro a222 H222
                      refine qplain (y_fieldB rfl z_field32_1 rfl (by first | (simp only [Nat.zero_add, Nat.add_zero, Nat.reduceAdd]; rfl) | rfl)) rfl rfl rfl H222 ?_
                      clear H222; intro a223 H223
                      refine qplain (y_loadB rfl z_agg30 rfl (by repeat (first | exact Mh | apply Mt)) q_ix_c2_1) rfl rfl rfl H223 ?_
                      clear H223; intro a224 H224
                      refine qplain (y_len rfl Try.underlying30 rfl) rfl rfl rfl H224 ?_
                      clear H224; intro a225 H225
                      refine qplain (y_move rfl rfl) rfl rfl rfl H225 ?_
                      clear H225; intro a226 H226
                      refine qplain (y_nilCheck rfl rfl) rfl rfl rfl H226 ?_
                      clear H226; intro a227 H227
                      refine qplain (y_fieldB rfl z_field32_0 rfl (by first | (simp only [Nat.zero_add, Nat.add_zero, Nat.reduceAdd]; rfl) | rfl)) rfl rfl rfl H227 ?_
                      clear H227; intro a228 H228
                      refine qplain (y_loadB rfl z_agg3 rfl (by repeat (first | exact Mh | apply Mt)) q_ix_c2_0) rfl rfl rfl H228 ?_
                      clear H228; intro a229 H229
                      refine qplain (y_geq rfl rfl rfl) rfl rfl rfl H229 ?_
                      clear H229; intro a230 H230
                      refine qplain (y_assign rfl rfl) rfl rfl rfl H230 ?_
                      clear H230; intro a231 H231
                      refine qfin H231 ?_
                      clear H231; intro wx232 H232
                      refine then_n ?_
                      refine wp_seq ?_
                      refine wp_seq ?_
                      refine reg ?_
                      refine plain (y_move rfl rfl) rfl rfl rfl H232 ?_
                      clear H232; intro a233 H233
                      refine fin ?_
                      refine then_n ?_
                      refine wp_cut (fun aC wC => ((L.length : Int) = size → ¬ x.tx.fee ≤ (L.getD (Pool.poorest L L.length) Pool.Wait.zero).tx.fee) ∧ ∃ vC : Value, St Try.f11.ntmps (fps [It.row 38 76 (.slice A L.length cc) L.length (Pool.wc L), It.blk xp 32 [i64 size, (.slice A L.length cc)]]) w ([(0, .pointer (some ⟨xp, 0, none⟩)), (3, .pointer (some ⟨b1, 0, none⟩)), (4, .pointer (some ⟨b2, 0, none⟩)), (5, .bool false), (6, .int .i64 0), (9, .pointer (some ⟨b218, 0, none⟩)), (10, .bool (decide ((L.length : Int) = size)))]) ([It.row 38 76 vC (Pool.left size L).length (Pool.wc (Pool.left size L)), It.blk xp 32 [i64 size, vC], It.blk b218 38 (Pool.Wait.cells (Pool.outOf size L)), It.blk b2 38 (Pool.Wait.cells Pool.Wait.zero), It.blk b1 38 (Pool.Wait.cells x)]) aC wC) ?_ ?_
                      · skip
                        refine cnd H233 rfl (fun hc234 => ?_) (fun hc234 => ?_) -- cond 10
                        · skip
                          try simp only [decide_eq_true_eq, decide_eq_false_iff_not, Bool.not_eq_true', Bool.not_eq_false', Bool.and_eq_true, Bool.not_eq_true, Bool.not_eq_false] at hc234
                          have hgz : (L.length : Int) = size := by omega
                          refine wp_seq ?_
                          have hl0 : 0 < L.length := by omega
                          have hw0 := hL.at_ hl0
                          have whd := hw0.tx.hand
                          have wtg := hw0.tx.tag
                          refine reg ?_
                          refine plain (y_move rfl rfl) rfl rfl rfl H233 ?_
                          clear H233; intro a235 H235
                          refine plain (y_nilCheck rfl rfl) rfl rfl rfl H235 ?_
                          clear H235; intro a236 H236
                          refine plain (y_fieldB rfl z_field32_1 rfl (by first | (simp only [Nat.zero_add, Nat.add_zero, Nat.reduceAdd]; rfl) | rfl)) rfl rfl rfl H236 ?_
                          clear H236; intro a237 H237
                          refine plain (y_loadB rfl z_agg30 rfl (by repeat (first | exact Mh | apply Mt)) q_ix_c2_1) rfl rfl rfl H237 ?_
                          clear H237; intro a238 H238
                          refine plain (y_ixR rfl Try.underlying30 z_size38 rfl rfl (by omega) (by omega) (rd_row (by repeat (first | exact Mh | apply Mt))) (by first | (rw [Pool.wc_len hL]; omega) | (rw [Pool.wc_len hLL]; omega))) rfl rfl rfl H238 ?_
                          clear H238; intro a239 H239
                          refine plain (y_loadAS rfl z_agg38 z_size38 rfl (rd_row (by repeat (first | exact Mh | apply Mt))) (show _ = Pool.Wait.cells (L.getD 0 Pool.Wait.zero) from Pool.wc_take hL 0 hl0) hw0.len (by decide)) rfl rfl rfl H239 ?_
                          clear H239; intro a240 H240
                          refine st_storeN rfl z_size38 rfl rfl (agg_cells _) (by repeat (first | exact Uh | apply Ut)) (q_one_c8b32b32c4 rfl rfl rfl rfl rfl rfl rfl rfl rfl rfl rfl rfl) (q_len_c8b32b32c4 (by assumption) (by assumption)) (q_len_c8b32b32c4 (by assumption) (by assumption)) (q_spl_c8b32b32c4_0_c8b32b32c4 (by assumption) (by assumption) (by assumption) (by assumption)) (by decide) rfl rfl H240 ?_
                          clear H240; intro wx241 H241
                          refine fin ?_
                          refine then_n ?_
                          refine wp_seq ?_
                          refine wp_seq ?_
                          refine reg ?_
                          refine plain (y_assign rfl rfl) rfl rfl rfl H241 ?_
                          clear H241; intro a242 H242
                          refine fin ?_
                          refine then_n ?_
                          refine wp_block ?_
                          refine loop (ι := Nat) (fun k => [(0, .pointer (some ⟨xp, 0, none⟩)), (3, .pointer (some ⟨b1, 0, none⟩)), (4, .pointer (some ⟨b2, 0, none⟩)), (5, .bool false), (6, .int .i64 0), (9, .pointer (some ⟨b218, 0, none⟩)), (10, .bool (decide (size ≤ (L.length : Int)))), (11, .int .i64 (k : Int))]) (fun k => [It.blk b218 38 (Pool.Wait.cells (L.getD (Pool.poorest L k) Pool.Wait.zero)), It.blk b2 38 (Pool.Wait.cells Pool.Wait.zero), It.blk b1 38 (Pool.Wait.cells x), It.row 38 76 (.slice A L.length cc) L.length (Pool.wc L), It.blk xp 32 [i64 size, (.slice A L.length cc)]]) (fun k => 1 ≤ k ∧ k ≤ L.length) (fun k => L.length - k) (1) ⟨Nat.le_refl _, by omega⟩ (H242.weak ⟨rfl, rfl, rfl, rfl, rfl, rfl, rfl, rfl, trivial⟩ (by rw [Pool.poorest_1]; rfl)) ?_
                          clear H242; intro k a243 wx243 hok243 H243
                          have hok := hok243
                          have hpi := Pool.poorest_in (L := L) (k := k) (by omega) (by omega)
                          have hwp := hL.at_ hpi
                          have whp := hwp.tx.hand
                          have wtp := hwp.tx.tag
                          refine wp_seq ?_
                          refine wp_seq ?_
                          refine reg ?_
                          refine plain (y_move rfl rfl) rfl rfl rfl H243 ?_
                          clear H243; intro a244 H244
                          refine plain (y_move rfl rfl) rfl rfl rfl H244 ?_
                          clear H244; intro a245 H245
                          refine plain (y_nilCheck rfl rfl) rfl rfl rfl H245 ?_
                          clear H245; intro a246 H246
                          refine plain (y_fieldB rfl z_field32_1 rfl (by first | (simp only [Nat.zero_add, Nat.add_zero, Nat.reduceAdd]; rfl) | rfl)) rfl rfl rfl H246 ?_
                          clear H246; intro a247 H247
                          refine plain (y_loadB rfl z_agg30 rfl (by repeat (first | exact Mh | apply Mt)) q_ix_c2_1) rfl rfl rfl H247 ?_
                          clear H247; intro a248 H248
                          refine plain (y_len rfl Try.underlying30 rfl) rfl rfl rfl H248 ?_
                          clear H248; intro a249 H249
                          refine plain (y_lss rfl rfl rfl) rfl rfl rfl H249 ?_
                          clear H249; intro a250 H250
                          refine fin ?_
                          refine then_n ?_
                          refine cnd H250 rfl (fun hc251 => ?_) (fun hc251 => ?_) -- cond 11
                          · skip
                            try simp only [decide_eq_true_eq, decide_eq_false_iff_not, Bool.not_eq_true', Bool.not_eq_false', Bool.and_eq_true, Bool.not_eq_true, Bool.not_eq_false] at hc251
                            refine wp_skip ?_
                            refine then_n ?_
                            refine wp_seq ?_
                            refine wp_block ?_
                            refine wp_seq ?_
                            have hkl : k < L.length := by omega
                            refine qreg (by kernel_rfl) (by kernel_rfl) H250 ?_
                            have F252 := H250.fr
                            clear H250
                            refine qplain (y_move rfl rfl) rfl rfl rfl F252 ?_
                            clear F252; intro a253 H253
                            refine qplain (y_nilCheck rfl rfl) rfl rfl rfl H253 ?_
                            clear H253; intro a254 H254
                            refine qplain (y_fieldB rfl z_field32_1 rfl (by first | (simp only [Nat.zero_add, Nat.add_zero, Nat.reduceAdd]; rfl) | rfl)) rfl rfl rfl H254 ?_
                            clear H254; intro a255 H255
                            refine qplain (y_loadB rfl z_agg30 rfl (by repeat (first | exact Mh | apply Mt)) q_ix_c2_1) rfl rfl rfl H255 ?_
                            clear H255; intro a256 H256
                            refine qplain (y_move rfl rfl) rfl rfl rfl H256 ?_
                            clear H256; intro a257 H257
                            refine qplain (y_ixR rfl Try.underlying30 z_size38 rfl rfl (by omega) (by omega) (rd_row (by repeat (first | exact Mh | apply Mt))) (by first | (rw [Pool.wc_len hL]; omega) | (rw [Pool.wc_len hLL]; omega))) rfl rfl rfl H257 ?_
                            clear H257; intro a258 H258
                            refine qplain (y_fieldS rfl z_field38_0 rfl (rd_row (by repeat (first | exact Mh | apply Mt))) (by first | (rw [Pool.wc_len hL]; omega) | (rw [Pool.wc_len hLL]; omega))) rfl rfl rfl H258 ?_
                            clear H258; intro a259 H259
                            refine qplain (y_fieldS rfl z_field36_2 rfl (rd_row (by repeat (first | exact Mh | apply Mt))) (by first | (rw [Pool.wc_len hL]; omega) | (rw [Pool.wc_len hLL]; omega))) rfl rfl rfl H259 ?_
                            clear H259; intro a260 H260
                            refine qplain (y_loadR rfl z_agg3 rfl (rd_row (by repeat (first | exact Mh | apply Mt))) (by simp only [Int.toNat_natCast, Nat.zero_add, Nat.add_zero]; exact (show _ = some (i64 (L.getD k Pool.Wait.zero).tx.fee) from Pool.wc_at (c := 2) hL (by omega) (by omega)))) rfl rfl rfl H260 ?_
                            clear H260; intro a261 H261
                            refine qplain (y_fieldB rfl z_field38_0 rfl (by first | (simp only [Nat.zero_add, Nat.add_zero, Nat.reduceAdd]; rfl) | rfl)) rfl rfl rfl H261 ?_
                            clear H261; intro a262 H262
                            refine qplain (y_fieldB rfl z_field36_2 rfl (by first | (simp only [Nat.zero_add, Nat.add_zero, Nat.reduceAdd]; rfl) | rfl)) rfl rfl rfl H262 ?_
                            clear H262; intro a263 H263
                            refine qplain (y_loadB rfl z_agg3 rfl (by repeat (first | exact Mh | apply Mt)) q_ix_c8b32b32c4_2) rfl rfl rfl H263 ?_
                            clear H263; intro a264 H264
                            refine qplain (y_leq rfl rfl rfl) rfl rfl rfl H264 ?_
                            clear H264; intro a265 H265
                            refine qfin H265 ?_
                            clear H265; intro wx266 H266
                            refine then_n ?_
                            refine cnd H266 rfl (fun hc267 => ?_) (fun hc267 => ?_) -- cond 12
                            · skip
                              try simp only [decide_eq_true_eq, decide_eq_false_iff_not, Bool.not_eq_true', Bool.not_eq_false', Bool.and_eq_true, Bool.not_eq_true, Bool.not_eq_false] at hc267
                              have hkl : k < L.length := by omega
                              have hwk := hL.at_ hkl
                              have whd := hwk.tx.hand
                              have wtg := hwk.tx.tag
                              have isYes := True.intro
                              refine reg ?_
                              refine plain (y_move rfl rfl) rfl rfl rfl H266 ?_
                              clear H266; intro a268 H268
                              refine plain (y_nilCheck rfl rfl) rfl rfl rfl H268 ?_
                              clear H268; intro a269 H269
                              refine plain (y_fieldB rfl z_field32_1 rfl (by first | (simp only [Nat.zero_add, Nat.add_zero, Nat.reduceAdd]; rfl) | rfl)) rfl rfl rfl H269 ?_
                              clear H269; intro a270 H270
                              refine plain (y_loadB rfl z_agg30 rfl (by repeat (first | exact Mh | apply Mt)) q_ix_c2_1) rfl rfl rfl H270 ?_
                              clear H270; intro a271 H271
                              refine plain (y_move rfl rfl) rfl rfl rfl H271 ?_
                              clear H271; intro a272 H272
                              refine plain (y_ixR rfl Try.underlying30 z_size38 rfl rfl (by omega) (by omega) (rd_row (by repeat (first | exact Mh | apply Mt))) (by first | (rw [Pool.wc_len hL]; omega) | (rw [Pool.wc_len hLL]; omega))) rfl rfl rfl H272 ?_
                              clear H272; intro a273 H273
                              refine plain (y_loadAS rfl z_agg38 z_size38 rfl (rd_row (by repeat (first | exact Mh | apply Mt))) (show _ = Pool.Wait.cells (L.getD k Pool.Wait.zero) from Pool.wc_take hL k hkl) hwk.len (by decide)) rfl rfl rfl H273 ?_
                              clear H273; intro a274 H274
                              refine st_storeN rfl z_size38 rfl rfl (agg_cells _) (by repeat (first | exact Uh | apply Ut)) (q_one_c8b32b32c4 rfl rfl rfl rfl rfl rfl rfl rfl rfl rfl rfl rfl) (q_len_c8b32b32c4 (by assumption) (by assumption)) (q_len_c8b32b32c4 (by assumption) (by assumption)) (q_spl_c8b32b32c4_0_c8b32b32c4 (by assumption) (by assumption) (by assumption) (by assumption)) (by decide) rfl rfl H274 ?_
                              clear H274; intro wx275 H275
                              refine fin ?_
                              refine inb_n ?_
                              refine then_n ?_
                              refine reg ?_
                              refine plain (y_move rfl rfl) rfl rfl rfl H275 ?_
                              clear H275; intro a276 H276
                              refine plain (y_add rfl rfl rfl (by first | exact w64 (by omega) (by omega) | rfl)) rfl rfl rfl H276 ?_
                              clear H276; intro a277 H277
                              refine plain (y_assign rfl rfl) rfl rfl rfl H277 ?_
                              clear H277; intro a278 H278
                              refine fin ?_
                              refine then_n ?_
                              first | (have hz := isYes; refine ⟨k + 1, by omega, by omega, H278.weak ⟨rfl, rfl, rfl, rfl, rfl, rfl, rfl, fi rfl (by omega), trivial⟩ (ib (by rw [Pool.poor_yes (by assumption)]; rfl))⟩) | (refine ⟨k + 1, by omega, by omega, H278.weak ⟨rfl, rfl, rfl, rfl, rfl, rfl, rfl, fi rfl (by omega), trivial⟩ (ib (by rw [Pool.poor_no (by assumption)]))⟩)
                            · skip
                              try simp only [decide_eq_true_eq, decide_eq_false_iff_not, Bool.not_eq_true', Bool.not_eq_false', Bool.and_eq_true, Bool.not_eq_true, Bool.not_eq_false] at hc267
                              refine wp_skip ?_
                              refine inb_n ?_
                              refine then_n ?_
                              refine reg ?_
                              refine plain (y_move rfl rfl) rfl rfl rfl H266 ?_
                              clear H266; intro a279 H279
                              refine plain (y_add rfl rfl rfl (by first | exact w64 (by omega) (by omega) | rfl)) rfl rfl rfl H279 ?_
                              clear H279; intro a280 H280
                              refine plain (y_assign rfl rfl) rfl rfl rfl H280 ?_
                              clear H280; intro a281 H281
                              refine fin ?_
                              refine then_n ?_
                              first | (have hz := isYes; refine ⟨k + 1, by omega, by omega, H281.weak ⟨rfl, rfl, rfl, rfl, rfl, rfl, rfl, fi rfl (by omega), trivial⟩ (ib (by rw [Pool.poor_yes (by assumption)]; rfl))⟩) | (refine ⟨k + 1, by omega, by omega, H281.weak ⟨rfl, rfl, rfl, rfl, rfl, rfl, rfl, fi rfl (by omega), trivial⟩ (ib (by rw [Pool.poor_no (by assumption)]))⟩)
                          · skip
                            try simp only [decide_eq_true_eq, decide_eq_false_iff_not, Bool.not_eq_true', Bool.not_eq_false', Bool.and_eq_true, Bool.not_eq_true, Bool.not_eq_false] at hc251
                            refine wp_exit ?_
                            refine then_x ?_
                            refine then_x ?_
                            refine inb_hit ?_
                            refine then_n ?_
                            refine wp_seq ?_
                            refine wp_seq ?_
                            obtain rfl : k = L.length := by omega
                            refine reg ?_
                            refine plain (y_fieldB rfl z_field38_0 rfl (by first | (simp only [Nat.zero_add, Nat.add_zero, Nat.reduceAdd]; rfl) | rfl)) rfl rfl rfl H250 ?_
                            clear H250; intro a282 H282
                            refine plain (y_fieldB rfl z_field36_2 rfl (by first | (simp only [Nat.zero_add, Nat.add_zero, Nat.reduceAdd]; rfl) | rfl)) rfl rfl rfl H282 ?_
                            clear H282; intro a283 H283
                            refine plain (y_loadB rfl z_agg3 rfl (by repeat (first | exact Mh | apply Mt)) q_ix_c8b32b32c4_2) rfl rfl rfl H283 ?_
                            clear H283; intro a284 H284
                            refine plain (y_fieldB rfl z_field38_0 rfl (by first | (simp only [Nat.zero_add, Nat.add_zero, Nat.reduceAdd]; rfl) | rfl)) rfl rfl rfl H284 ?_
                            clear H284; intro a285 H285
                            refine plain (y_fieldB rfl z_field36_2 rfl (by first | (simp only [Nat.zero_add, Nat.add_zero, Nat.reduceAdd]; rfl) | rfl)) rfl rfl rfl H285 ?_
                            clear H285; intro a286 H286
                            refine plain (y_loadB rfl z_agg3 rfl (by repeat (first | exact Mh | apply Mt)) q_ix_c8b32b32c4_2) rfl rfl rfl H286 ?_
                            clear H286; intro a287 H287
                            refine plain (y_geq rfl rfl rfl) rfl rfl rfl H287 ?_
                            clear H287; intro a288 H288
                            refine fin ?_
                            refine then_n ?_
                            refine cnd H288 rfl (fun hc289 => ?_) (fun hc289 => ?_) -- cond 13
                            · skip
                              try simp only [decide_eq_true_eq, decide_eq_false_iff_not, Bool.not_eq_true', Bool.not_eq_false', Bool.and_eq_true, Bool.not_eq_true, Bool.not_eq_false] at hc289
                              have hful := hc289
                              refine wp_seq ?_
                              refine reg ?_
                              refine plain (y_build rfl z_zeroN38 z_places38 rfl lay_n) rfl rfl rfl H288 ?_
                              clear H288; intro a290 H290
                              refine st_storeN rfl z_size38 rfl rfl (agg_cells _) (by repeat (first | exact Uh | apply Ut)) (q_one_c8b32b32c4 rfl rfl rfl rfl rfl rfl rfl rfl rfl rfl rfl rfl) (q_len_c8b32b32c4 (by assumption) (by assumption)) (q_len_c8b32b32c4 (by assumption) (by assumption)) (q_spl_c8b32b32c4_0_c8b32b32c4 (by assumption) (by assumption) (by assumption) (by assumption)) (by decide) rfl rfl H290 ?_
                              clear H290; intro wx291 H291
                              refine plain (y_assign rfl rfl) rfl rfl rfl H291 ?_
                              clear H291; intro a292 H292
                              refine plain (y_assign rfl rfl) rfl rfl rfl H292 ?_
                              clear H292; intro a293 H293
                              refine fin ?_
                              refine then_n ?_
                              refine wp_ret ?_
                              refine then_r ?_
                              refine cut_r ?_
                              -- return 8
                              refine retctt rfl H293 rfl z_agg38 z_size38 (by repeat (first | exact Mh | apply Mt)) (q_len_c8b32b32c4 (by assumption) (by assumption)) rfl rfl ?_
                              first | (have hz := hnr; rw [Pool.put_bad hnr]; exact ⟨_, _, rfl, ⟨rfl, (.slice A L.length cc), rfl⟩, H293.sep.sub (by repeat (first | exact S1 | exact S0 | apply S2 | apply S3))⟩) | (have hz := hnfz; have hsx := H293.sep.sub (l' := [It.row _ 76 (.slice A5 (Pool.ins (Pool.left size L) x).length c5) _ _, It.blk xp _ [i64 size, (.slice A5 (Pool.ins (Pool.left size L) x).length c5)]]) (by repeat (first | exact S1 | exact S0 | apply S2 | apply S3)); by_cases hgz : (L.length : Int) = size; (rw [(Pool.left_yes hgz).1] at hsx; rw [(Pool.left_yes hgz).2, Pool.put_gone (p := ⟨size, L⟩) hrt hnt (by dsimp only; omega) (hnfz hgz)]; exact ⟨_, _, rfl, ⟨by rw [decide_eq_true hgz]; rfl, _, rfl⟩, hsx⟩); (rw [(Pool.left_no hgz).1] at hsx; rw [(Pool.left_no hgz).2, Pool.put_room (p := ⟨size, L⟩) hrt hnt (by dsimp only; omega)]; exact ⟨_, _, rfl, ⟨by rw [decide_eq_false hgz]; rfl, _, rfl⟩, hsx⟩)) | (have hz := hful; rw [Pool.put_full (p := ⟨size, L⟩) hrt hnt (by dsimp only; omega) (by dsimp only; omega)]; exact ⟨_, _, rfl, ⟨rfl, (.slice A L.length cc), rfl⟩, H293.sep.sub (by repeat (first | exact S1 | exact S0 | apply S2 | apply S3))⟩) | (rw [Pool.put_twice (p := ⟨size, L⟩) hrt ⟨_, Pool.mem_getD hkl, by first | exact .inl (by assumption) | exact .inr ⟨by assumption, by assumption⟩⟩]; exact ⟨_, _, rfl, ⟨rfl, (.slice A L.length cc), rfl⟩, H293.sep.sub (by repeat (first | exact S1 | exact S0 | apply S2 | apply S3))⟩)
                            · skip
                              try simp only [decide_eq_true_eq, decide_eq_false_iff_not, Bool.not_eq_true', Bool.not_eq_false', Bool.and_eq_true, Bool.not_eq_true, Bool.not_eq_false] at hc289
                              have hnf := hc289
                              refine wp_skip ?_
                              refine then_n ?_
                              refine hreg [It.blk b218 38 (Pool.Wait.cells (L.getD (Pool.poorest L L.length) Pool.Wait.zero))] (fun _ h => (h.sub (by first | exact S0 | exact S1 | repeat (first | exact S1 | exact S0 | apply S2 | apply S3)))) (by kernel_rfl) H288 ?_
                              clear H288; intro wx294 H294
                              refine htake 0 rfl (by kernel_rfl) (y_move rfl rfl) rfl rfl rfl (fun _ h => (h.sub (by first | exact S0 | exact S1 | repeat (first | exact S1 | exact S0 | apply S2 | apply S3)))) H294 ?_
                              clear H294; intro a295 H295
                              refine htake 1 rfl (by kernel_rfl) (y_move rfl rfl) rfl rfl rfl (fun _ h => (h.sub (by first | exact S0 | exact S1 | repeat (first | exact S1 | exact S0 | apply S2 | apply S3)))) H295 ?_
                              clear H295; intro a296 H296
                              refine htake 2 rfl (by kernel_rfl) (y_nilCheck rfl rfl) rfl rfl rfl (fun _ h => (h.sub (by first | exact S0 | exact S1 | repeat (first | exact S1 | exact S0 | apply S2 | apply S3)))) H296 ?_
                              clear H296; intro a297 H297
                              refine htake 3 rfl (by kernel_rfl) (y_fieldB rfl z_field32_1 rfl (by first | (simp only [Nat.zero_add, Nat.add_zero, Nat.reduceAdd]; rfl) | rfl)) rfl rfl rfl (fun _ h => (h.sub (by first | exact S0 | exact S1 | repeat (first | exact S1 | exact S0 | apply S2 | apply S3)))) H297 ?_
                              clear H297; intro a298 H298
                              refine htake 5 rfl (by kernel_rfl) (y_fieldB rfl z_field38_1 rfl (by first | (simp only [Nat.zero_add, Nat.add_zero, Nat.reduceAdd]; rfl) | rfl)) rfl rfl rfl (fun _ h => (h.sub (by first | exact S0 | exact S1 | repeat (first | exact S1 | exact S0 | apply S2 | apply S3)))) H298 ?_
                              clear H298; intro a299 H299
                              refine htake 6 rfl (by kernel_rfl) (y_loadB rfl z_agg3 rfl (by repeat (first | exact Mh | apply Mt)) (q_ix_c8b32b32c4_72 (by assumption) (by assumption))) rfl rfl rfl (fun _ h => (h.sub (by first | exact S0 | exact S1 | repeat (first | exact S1 | exact S0 | apply S2 | apply S3)))) H299 ?_
                              clear H299; intro a300 H300
                              refine hgo 4 rfl (by kernel_rfl) ?_
                              refine plain (y_loadB rfl z_agg30 rfl (by repeat (first | exact Mh | apply Mt)) q_ix_c2_1) rfl rfl rfl H300 ?_
                              clear H300; intro a301 H301
                              refine hfinA H301.sep ?_
                              refine hgo 7 rfl (by kernel_rfl) ?_
                              refine st_call rfl z_call31 rfl rfl rfl rfl H301 (xwo L hL A cc (L.getD (Pool.poorest L L.length) Pool.Wait.zero).index (by omega) (Rd.ofSep (rd_row (by repeat (first | exact Mh | apply Mt))) H301.sep)) ?_
                              clear H301; intro v302 l302 a302 wx302 hf302 H302
                              obtain rfl := hf302
                              simp only [List.cons_append, List.nil_append] at H302
                              obtain ⟨ArO, crO, hvrO, hRrO, hmrO⟩ := row_shape (v := v302) H302.sep (by repeat (first | exact Mh | apply Mt))
                              subst hvrO
                              refine hfinA H302.sep ?_
                              refine htake 8 rfl (by kernel_rfl) (y_nilCheck rfl rfl) rfl rfl rfl (fun _ h => (h.sub (by first | exact S0 | exact S1 | repeat (first | exact S1 | exact S0 | apply S2 | apply S3)))) H302 ?_
                              clear H302; intro a303 H303
                              refine htake 9 rfl (by kernel_rfl) (y_fieldB rfl z_field32_1 rfl (by first | (simp only [Nat.zero_add, Nat.add_zero, Nat.reduceAdd]; rfl) | rfl)) rfl rfl rfl (fun _ h => (h.sub (by first | exact S0 | exact S1 | repeat (first | exact S1 | exact S0 | apply S2 | apply S3)))) H303 ?_
                              clear H303; intro a304 H304
                              refine hgo 10 rfl (by kernel_rfl) ?_
                              refine st_store1N rfl z_size30 rfl rfl rfl (by repeat (first | exact Uh | apply Ut)) q_len_c2 q_set_c2_1 (by decide) rfl rfl H304 ?_
                              clear H304; intro wx305 H305
                              refine hfinA H305.sep ?_
                              refine hdone (by kernel_rfl) ?_
                              refine cut_n ?_
                              first | (have hz := hnf; refine ⟨fun _ => by omega, .slice ArO (Pool.wo L (L.getD (Pool.poorest L L.length) Pool.Wait.zero).index).length crO, ?_⟩; rw [(Pool.left_yes hgz).1, (Pool.left_yes hgz).2, ← Pool.wo_erase hg.sorted hpi]; have hsx := ((rot (rot (rot (rot (rot H305))))).sep.perm (List.Perm.swap _ _ _)).sub (l' := [It.row _ 76 (.slice ArO _ crO) _ _, It.blk xp _ _, It.blk b218 _ _, It.blk b2 _ _, It.blk b1 _ _]) (by repeat (first | exact S1 | exact S0 | apply S2 | apply S3)); exact ⟨H305.fr.weak ⟨rfl, rfl, rfl, rfl, rfl, rfl, (by rw [decide_eq_true hgz]; exact fv rfl (by rw [decide_eq_true (by omega)])), trivial⟩, hsx⟩) | (refine ⟨fun z => absurd z hgz, (.slice A L.length cc), ?_⟩; rw [(Pool.left_no hgz).1, (Pool.left_no hgz).2]; exact (rot (rot (rot H305))).weak ⟨rfl, rfl, rfl, rfl, rfl, rfl, (by rw [decide_eq_false hgz]; exact fv rfl (by rw [decide_eq_false (by omega)])), trivial⟩ rfl)
                        · skip
                          try simp only [decide_eq_true_eq, decide_eq_false_iff_not, Bool.not_eq_true', Bool.not_eq_false', Bool.and_eq_true, Bool.not_eq_true, Bool.not_eq_false] at hc234
                          have hgz : ¬ (L.length : Int) = size := by omega
                          refine wp_skip ?_
                          refine cut_n ?_
                          first | (have hz := hnf; refine ⟨fun _ => by omega, .slice ArO (Pool.wo L (L.getD (Pool.poorest L L.length) Pool.Wait.zero).index).length crO, ?_⟩; rw [(Pool.left_yes hgz).1, (Pool.left_yes hgz).2, ← Pool.wo_erase hg.sorted hpi]; have hsx := ((rot (rot (rot (rot (rot H233))))).sep.perm (List.Perm.swap _ _ _)).sub (l' := [It.row _ 76 (.slice ArO _ crO) _ _, It.blk xp _ _, It.blk b218 _ _, It.blk b2 _ _, It.blk b1 _ _]) (by repeat (first | exact S1 | exact S0 | apply S2 | apply S3)); exact ⟨H233.fr.weak ⟨rfl, rfl, rfl, rfl, rfl, rfl, (by rw [decide_eq_true hgz]; exact fv rfl (by rw [decide_eq_true (by omega)])), trivial⟩, hsx⟩) | (refine ⟨fun z => absurd z hgz, (.slice A L.length cc), ?_⟩; rw [(Pool.left_no hgz).1, (Pool.left_no hgz).2]; exact (rot (rot (rot H233))).weak ⟨rfl, rfl, rfl, rfl, rfl, rfl, (by rw [decide_eq_false hgz]; exact fv rfl (by rw [decide_eq_false (by omega)])), trivial⟩ rfl)
                      · clear H233; intro a306 wx306 hI306
                        obtain ⟨hnfz, vC, H306⟩ := hI306
                        refine then_n ?_
                        refine wp_seq ?_
                        obtain ⟨A3, c3, rfl, hR3, hm3⟩ := row_shape (v := vC) H306.sep (by repeat (first | exact Mh | apply Mt))
                        refine reg ?_
                        refine plain (y_assign rfl rfl) rfl rfl rfl H306 ?_
                        clear H306; intro a307 H307
                        refine fin ?_
                        refine then_n ?_
                        refine wp_seq ?_
                        refine reg ?_
                        refine plain (y_assign rfl rfl) rfl rfl rfl H307 ?_
                        clear H307; intro a308 H308
                        refine fin ?_
                        refine then_n ?_
                        refine wp_seq ?_
                        refine wp_seq ?_
                        refine reg ?_
                        refine plain (y_assign rfl rfl) rfl rfl rfl H308 ?_
                        clear H308; intro a309 H309
                        refine fin ?_
                        refine then_n ?_
                        refine wp_block ?_
                        replace H309 := H309.nilRow 38 76
                        refine loop (ι := Nat × Value) (fun y => [(0, .pointer (some ⟨xp, 0, none⟩)), (3, .pointer (some ⟨b1, 0, none⟩)), (4, .pointer (some ⟨b2, 0, none⟩)), (5, .bool false), (6, .int .i64 0), (9, .pointer (some ⟨b218, 0, none⟩)), (10, .bool (decide ((L.length : Int) = size))), (12, y.2), (13, .bool (decide (Pool.pos (Pool.left size L) x < y.1))), (14, .int .i64 (y.1 : Int))]) (fun y => [It.row 38 76 y.2 (Pool.insTo (Pool.left size L) x y.1).length (Pool.wc (Pool.insTo (Pool.left size L) x y.1)), It.row 38 76 (.slice A3 (Pool.left size L).length c3) (Pool.left size L).length (Pool.wc (Pool.left size L)), It.blk xp 32 [i64 size, (.slice A3 (Pool.left size L).length c3)], It.blk b218 38 (Pool.Wait.cells (Pool.outOf size L)), It.blk b2 38 (Pool.Wait.cells Pool.Wait.zero), It.blk b1 38 (Pool.Wait.cells x)]) (fun y => y.1 ≤ (Pool.left size L).length) (fun y => (Pool.left size L).length - y.1) ((0, (.slice none 0 0))) (Nat.zero_le _) (H309.weak ⟨rfl, rfl, rfl, rfl, rfl, rfl, rfl, rfl, (fv rfl (by rw [decide_eq_false (Nat.not_lt_zero _)])), rfl, trivial⟩ (by dsimp only; rw [Pool.insTo_0]; rfl)) ?_
                        clear H309; intro y a310 wx310 hok310 H310
                        obtain ⟨k, v⟩ := y
                        dsimp only at hok310 H310
                        have hok := hok310
                        obtain ⟨A1, c1, rfl, hR1, hm1⟩ := row_shape (v := v) H310.sep (by repeat (first | exact Mh | apply Mt))
                        have hil := Pool.insTo_len (Pool.left size L) x k hok
                        refine wp_seq ?_
                        refine wp_seq ?_
                        refine reg ?_
                        refine plain (y_move rfl rfl) rfl rfl rfl H310 ?_
                        clear H310; intro a311 H311
                        refine plain (y_move rfl rfl) rfl rfl rfl H311 ?_
                        clear H311; intro a312 H312
                        refine plain (y_nilCheck rfl rfl) rfl rfl rfl H312 ?_
                        clear H312; intro a313 H313
                        refine plain (y_fieldB rfl z_field32_1 rfl (by first | (simp only [Nat.zero_add, Nat.add_zero, Nat.reduceAdd]; rfl) | rfl)) rfl rfl rfl H313 ?_
                        clear H313; intro a314 H314
                        refine plain (y_loadB rfl z_agg30 rfl (by repeat (first | exact Mh | apply Mt)) q_ix_c2_1) rfl rfl rfl H314 ?_
                        clear H314; intro a315 H315
                        refine plain (y_len rfl Try.underlying30 rfl) rfl rfl rfl H315 ?_
                        clear H315; intro a316 H316
                        refine plain (y_lss rfl rfl rfl) rfl rfl rfl H316 ?_
                        clear H316; intro a317 H317
                        refine fin ?_
                        refine then_n ?_
                        refine cnd H317 rfl (fun hc318 => ?_) (fun hc318 => ?_) -- cond 14
                        · skip
                          try simp only [decide_eq_true_eq, decide_eq_false_iff_not, Bool.not_eq_true', Bool.not_eq_false', Bool.and_eq_true, Bool.not_eq_true, Bool.not_eq_false] at hc318
                          refine wp_skip ?_
                          refine then_n ?_
                          refine wp_seq ?_
                          refine wp_block ?_
                          refine wp_seq ?_
                          refine wp_seq ?_
                          have hkl : k < (Pool.left size L).length := by omega
                          have hwk := hLL.at_ hkl
                          have whd := hwk.tx.hand
                          have wtg := hwk.tx.tag
                          refine qreg (by kernel_rfl) (by kernel_rfl) H317 ?_
                          have F319 := H317.fr
                          clear H317
                          refine qplain (y_move rfl rfl) rfl rfl rfl F319 ?_
                          clear F319; intro a320 H320
                          refine qplain ((by first | exact y_not_d rfl rfl | exact y_not rfl rfl)) rfl rfl rfl H320 ?_
                          clear H320; intro a321 H321
                          refine qplain (y_move rfl rfl) rfl rfl rfl H321 ?_
                          clear H321; intro a322 H322
                          refine qpart (d := 160) H322 rfl (fun hg323 => ?_) (fun hg323 => ?_)
                          · first
                            | fail
                            | skip
                              clear H322; intro H324
                              try simp only [decide_eq_true_eq, decide_eq_false_iff_not, Bool.not_eq_true', Bool.not_eq_false', Bool.and_eq_true, Bool.not_eq_true, Bool.not_eq_false] at hg323
                              have hd1 := hg323
                              refine qplain (y_move rfl rfl) rfl rfl rfl H324 ?_
                              clear H324; intro a325 H325
                              refine qplain (y_nilCheck rfl rfl) rfl rfl rfl H325 ?_
                              clear H325; intro a326 H326
                              refine qplain (y_fieldB rfl z_field32_1 rfl (by first | (simp only [Nat.zero_add, Nat.add_zero, Nat.reduceAdd]; rfl) | rfl)) rfl rfl rfl H326 ?_
                              clear H326; intro a327 H327
                              refine qplain (y_loadB rfl z_agg30 rfl (by repeat (first | exact Mh | apply Mt)) q_ix_c2_1) rfl rfl rfl H327 ?_
                              clear H327; intro a328 H328
                              refine qplain (y_move rfl rfl) rfl rfl rfl H328 ?_
                              clear H328; intro a329 H329
                              refine qplain (y_ixR rfl Try.underlying30 z_size38 rfl rfl (by omega) (by omega) (rd_row (by repeat (first | exact Mh | apply Mt))) (by first | (rw [Pool.wc_len hL]; omega) | (rw [Pool.wc_len hLL]; omega))) rfl rfl rfl H329 ?_
                              clear H329; intro a330 H330
                              refine qplain (y_fieldS rfl z_field38_1 rfl (rd_row (by repeat (first | exact Mh | apply Mt))) (by first | (rw [Pool.wc_len hL]; omega) | (rw [Pool.wc_len hLL]; omega))) rfl rfl rfl H330 ?_
                              clear H330; intro a331 H331
                              refine qplain (y_loadR rfl z_agg3 rfl (rd_row (by repeat (first | exact Mh | apply Mt))) (by simp only [Int.toNat_natCast, Nat.zero_add, Nat.add_zero]; exact (Pool.wc_at (c := 72) hLL (by omega) (by omega)).trans (Pool.at_end (hLL.at_ (by omega))).1)) rfl rfl rfl H331 ?_
                              clear H331; intro a332 H332
                              refine qplain (y_fieldB rfl z_field38_1 rfl (by first | (simp only [Nat.zero_add, Nat.add_zero, Nat.reduceAdd]; rfl) | rfl)) rfl rfl rfl H332 ?_
                              clear H332; intro a333 H333
                              refine qplain (y_loadB rfl z_agg3 rfl (by repeat (first | exact Mh | apply Mt)) (q_ix_c8b32b32c4_72 (by assumption) (by assumption))) rfl rfl rfl H333 ?_
                              clear H333; intro a334 H334
                              refine qplain (y_gtr rfl rfl rfl) rfl rfl rfl H334 ?_
                              clear H334; intro a335 H335
                              refine qplain (y_pick_t rfl rfl rfl) rfl rfl rfl H335 ?_
                              clear H335; intro a336 H336
                              refine qfin H336 ?_
                              clear H336; intro wx337 H337
                              refine then_n ?_
                              refine cnd H337 rfl (fun hc338 => ?_) (fun hc338 => ?_) -- cond 15
                              · skip
                                try simp only [decide_eq_true_eq, decide_eq_false_iff_not, Bool.not_eq_true', Bool.not_eq_false', Bool.and_eq_true, Bool.not_eq_true, Bool.not_eq_false] at hc338
                                have hx1 : x.index < ((Pool.left size L).getD k Pool.Wait.zero).index := hc338
                                refine wp_seq ?_
                                refine reg ?_
                                refine plain (y_move rfl rfl) rfl rfl rfl H337 ?_
                                clear H337; intro a339 H339
                                refine plain (y_loadAB rfl z_agg38 z_size38 rfl (by repeat (first | exact Mh | apply Mt)) (q_ld_c8b32b32c4_0_76 (by assumption) (by assumption)) (q_len_c8b32b32c4 (by assumption) (by assumption))) rfl rfl rfl H339 ?_
                                clear H339; intro a340 H340
                                refine st_buildSlice rfl Try.underlying30 z_size38 z_zero38 rfl rfl rfl (lay_agg (agg_cells _) wx.len rfl) rfl rfl rfl H340 ?_
                                clear H340; intro b341 a341 wx341 H341
                                refine st_append rfl z_slice30 z_notint30 rfl rfl (fun _ => (by repeat (first | exact Uh | apply Ut))) (fun w hs => Src.slice ((rd_blkA (by repeat (first | exact Mh | apply Mt))) w hs) wx.len (Pool.wait_cell _)) (by unfold maxLen at *; omega) (by omega) rfl rfl rfl H341 ?_
                                clear H341; intro v342 a342 wx342 hnil342 H342
                                obtain ⟨ArP, crP, hvrP, hRrP, hmrP⟩ := row_shape (v := v342) H342.sep (by repeat (first | exact Mh | apply Mt))
                                subst hvrP
                                refine plain (y_assign rfl rfl) rfl rfl rfl H342 ?_
                                clear H342; intro a343 H343
                                refine fin ?_
                                refine then_n ?_
                                refine reg ?_
                                refine plain (y_assign rfl rfl) rfl rfl rfl H343 ?_
                                clear H343; intro a344 H344
                                refine fin ?_
                                refine then_n ?_
                                refine reg ?_
                                refine plain (y_move rfl rfl) rfl rfl rfl H344 ?_
                                clear H344; intro a345 H345
                                refine plain (y_move rfl rfl) rfl rfl rfl H345 ?_
                                clear H345; intro a346 H346
                                refine plain (y_nilCheck rfl rfl) rfl rfl rfl H346 ?_
                                clear H346; intro a347 H347
                                refine plain (y_fieldB rfl z_field32_1 rfl (by first | (simp only [Nat.zero_add, Nat.add_zero, Nat.reduceAdd]; rfl) | rfl)) rfl rfl rfl H347 ?_
                                clear H347; intro a348 H348
                                refine plain (y_loadB rfl z_agg30 rfl (by repeat (first | exact Mh | apply Mt)) q_ix_c2_1) rfl rfl rfl H348 ?_
                                clear H348; intro a349 H349
                                refine plain (y_move rfl rfl) rfl rfl rfl H349 ?_
                                clear H349; intro a350 H350
                                refine plain (y_ixR rfl Try.underlying30 z_size38 rfl rfl (by omega) (by omega) (rd_row (by repeat (first | exact Mh | apply Mt))) (by first | (rw [Pool.wc_len hL]; omega) | (rw [Pool.wc_len hLL]; omega))) rfl rfl rfl H350 ?_
                                clear H350; intro a351 H351
                                refine plain (y_loadAS rfl z_agg38 z_size38 rfl (rd_row (by repeat (first | exact Mh | apply Mt))) (show _ = Pool.Wait.cells ((Pool.left size L).getD k Pool.Wait.zero) from Pool.wc_take hLL k hkl) hwk.len (by decide)) rfl rfl rfl H351 ?_
                                clear H351; intro a352 H352
                                refine st_buildSlice rfl Try.underlying30 z_size38 z_zero38 rfl rfl rfl (lay_agg (agg_cells _) hwk.len rfl) rfl rfl rfl H352 ?_
                                clear H352; intro b353 a353 wx353 H353
                                refine st_append rfl z_slice30 z_notint30 rfl rfl (fun _ => (by repeat (first | exact Uh | apply Ut))) (fun w hs => Src.slice ((rd_blkA (by repeat (first | exact Mh | apply Mt))) w hs) hwk.len (Pool.wait_cell _)) (by unfold maxLen at *; omega) (by omega) rfl rfl rfl H353 ?_
                                clear H353; intro v354 a354 wx354 hnil354 H354
                                obtain ⟨ArQ, crQ, hvrQ, hRrQ, hmrQ⟩ := row_shape (v := v354) H354.sep (by repeat (first | exact Mh | apply Mt))
                                subst hvrQ
                                refine plain (y_assign rfl rfl) rfl rfl rfl H354 ?_
                                clear H354; intro a355 H355
                                refine fin ?_
                                refine inb_n ?_
                                refine then_n ?_
                                refine reg ?_
                                refine plain (y_move rfl rfl) rfl rfl rfl H355 ?_
                                clear H355; intro a356 H356
                                refine plain (y_add rfl rfl rfl (by first | exact w64 (by omega) (by omega) | rfl)) rfl rfl rfl H356 ?_
                                clear H356; intro a357 H357
                                refine plain (y_assign rfl rfl) rfl rfl rfl H357 ?_
                                clear H357; intro a358 H358
                                refine fin ?_
                                refine then_n ?_
                                first | (have hz := hx1; have hlw := (Pool.insTo_put hkl hd1 hx1); refine ⟨(k + 1, .slice ArQ ((Pool.insTo (Pool.left size L) x k).length + 1 + 1) crQ), by dsimp only; omega, by dsimp only; omega, (H358.drop (List.Sublist.cons _ (List.Sublist.cons _ (List.Sublist.refl _)))).weak ⟨rfl, rfl, rfl, rfl, rfl, rfl, rfl, rfl, (fv rfl (by rw [decide_eq_true hlw.1])), fi rfl (by dsimp only; omega), trivial⟩ (by dsimp only; rw [hlw.2, Pool.wc_append, Pool.wc_append, Pool.wc_one, Pool.wc_one, List.length_append, List.length_append]; rfl)⟩) | (have hz := hx2; have hlw := (Pool.insTo_not hkl hd1 hx2); refine ⟨(k + 1, .slice ArQ ((Pool.insTo (Pool.left size L) x k).length + 1) crQ), by dsimp only; omega, by dsimp only; omega, (H358.drop (List.Sublist.cons _ (List.Sublist.refl _))).weak ⟨rfl, rfl, rfl, rfl, rfl, rfl, rfl, rfl, (fv rfl (by rw [decide_eq_false hlw.1, decide_eq_false hd1])), fi rfl (by dsimp only; omega), trivial⟩ (by dsimp only; rw [hlw.2, Pool.wc_append, Pool.wc_one, List.length_append]; rfl)⟩) | (have hz := hd2; have hlw := (Pool.insTo_more hkl hd2); refine ⟨(k + 1, .slice ArQ ((Pool.insTo (Pool.left size L) x k).length + 1) crQ), by dsimp only; omega, by dsimp only; omega, (H358.drop (List.Sublist.cons _ (List.Sublist.refl _))).weak ⟨rfl, rfl, rfl, rfl, rfl, rfl, rfl, rfl, (fv rfl (by rw [decide_eq_true hlw.1, decide_eq_true hd2])), fi rfl (by dsimp only; omega), trivial⟩ (by dsimp only; rw [hlw.2, Pool.wc_append, Pool.wc_one, List.length_append]; rfl)⟩)
                              · skip
                                try simp only [decide_eq_true_eq, decide_eq_false_iff_not, Bool.not_eq_true', Bool.not_eq_false', Bool.and_eq_true, Bool.not_eq_true, Bool.not_eq_false] at hc338
                                have hx2 : ¬ x.index < ((Pool.left size L).getD k Pool.Wait.zero).index := hc338
                                refine wp_skip ?_
                                refine then_n ?_
                                refine reg ?_
                                refine plain (y_move rfl rfl) rfl rfl rfl H337 ?_
                                clear H337; intro a359 H359
                                refine plain (y_move rfl rfl) rfl rfl rfl H359 ?_
                                clear H359; intro a360 H360
                                refine plain (y_nilCheck rfl rfl) rfl rfl rfl H360 ?_
                                clear H360; intro a361 H361
                                refine plain (y_fieldB rfl z_field32_1 rfl (by first | (simp only [Nat.zero_add, Nat.add_zero, Nat.reduceAdd]; rfl) | rfl)) rfl rfl rfl H361 ?_
                                clear H361; intro a362 H362
                                refine plain (y_loadB rfl z_agg30 rfl (by repeat (first | exact Mh | apply Mt)) q_ix_c2_1) rfl rfl rfl H362 ?_
                                clear H362; intro a363 H363
                                refine plain (y_move rfl rfl) rfl rfl rfl H363 ?_
                                clear H363; intro a364 H364
                                refine plain (y_ixR rfl Try.underlying30 z_size38 rfl rfl (by omega) (by omega) (rd_row (by repeat (first | exact Mh | apply Mt))) (by first | (rw [Pool.wc_len hL]; omega) | (rw [Pool.wc_len hLL]; omega))) rfl rfl rfl H364 ?_
                                clear H364; intro a365 H365
                                refine plain (y_loadAS rfl z_agg38 z_size38 rfl (rd_row (by repeat (first | exact Mh | apply Mt))) (show _ = Pool.Wait.cells ((Pool.left size L).getD k Pool.Wait.zero) from Pool.wc_take hLL k hkl) hwk.len (by decide)) rfl rfl rfl H365 ?_
                                clear H365; intro a366 H366
                                refine st_buildSlice rfl Try.underlying30 z_size38 z_zero38 rfl rfl rfl (lay_agg (agg_cells _) hwk.len rfl) rfl rfl rfl H366 ?_
                                clear H366; intro b367 a367 wx367 H367
                                refine st_append rfl z_slice30 z_notint30 rfl rfl (fun _ => (by repeat (first | exact Uh | apply Ut))) (fun w hs => Src.slice ((rd_blkA (by repeat (first | exact Mh | apply Mt))) w hs) hwk.len (Pool.wait_cell _)) (by unfold maxLen at *; omega) (by omega) rfl rfl rfl H367 ?_
                                clear H367; intro v368 a368 wx368 hnil368 H368
                                obtain ⟨ArQ, crQ, hvrQ, hRrQ, hmrQ⟩ := row_shape (v := v368) H368.sep (by repeat (first | exact Mh | apply Mt))
                                subst hvrQ
                                refine plain (y_assign rfl rfl) rfl rfl rfl H368 ?_
                                clear H368; intro a369 H369
                                refine fin ?_
                                refine inb_n ?_
                                refine then_n ?_
                                refine reg ?_
                                refine plain (y_move rfl rfl) rfl rfl rfl H369 ?_
                                clear H369; intro a370 H370
                                refine plain (y_add rfl rfl rfl (by first | exact w64 (by omega) (by omega) | rfl)) rfl rfl rfl H370 ?_
                                clear H370; intro a371 H371
                                refine plain (y_assign rfl rfl) rfl rfl rfl H371 ?_
                                clear H371; intro a372 H372
                                refine fin ?_
                                refine then_n ?_
                                first | (have hz := hx1; have hlw := (Pool.insTo_put hkl hd1 hx1); refine ⟨(k + 1, .slice ArQ ((Pool.insTo (Pool.left size L) x k).length + 1 + 1) crQ), by dsimp only; omega, by dsimp only; omega, (H372.drop (List.Sublist.cons _ (List.Sublist.cons _ (List.Sublist.refl _)))).weak ⟨rfl, rfl, rfl, rfl, rfl, rfl, rfl, rfl, (fv rfl (by rw [decide_eq_true hlw.1])), fi rfl (by dsimp only; omega), trivial⟩ (by dsimp only; rw [hlw.2, Pool.wc_append, Pool.wc_append, Pool.wc_one, Pool.wc_one, List.length_append, List.length_append]; rfl)⟩) | (have hz := hx2; have hlw := (Pool.insTo_not hkl hd1 hx2); refine ⟨(k + 1, .slice ArQ ((Pool.insTo (Pool.left size L) x k).length + 1) crQ), by dsimp only; omega, by dsimp only; omega, (H372.drop (List.Sublist.cons _ (List.Sublist.refl _))).weak ⟨rfl, rfl, rfl, rfl, rfl, rfl, rfl, rfl, (fv rfl (by rw [decide_eq_false hlw.1, decide_eq_false hd1])), fi rfl (by dsimp only; omega), trivial⟩ (by dsimp only; rw [hlw.2, Pool.wc_append, Pool.wc_one, List.length_append]; rfl)⟩) | (have hz := hd2; have hlw := (Pool.insTo_more hkl hd2); refine ⟨(k + 1, .slice ArQ ((Pool.insTo (Pool.left size L) x k).length + 1) crQ), by dsimp only; omega, by dsimp only; omega, (H372.drop (List.Sublist.cons _ (List.Sublist.refl _))).weak ⟨rfl, rfl, rfl, rfl, rfl, rfl, rfl, rfl, (fv rfl (by rw [decide_eq_true hlw.1, decide_eq_true hd2])), fi rfl (by dsimp only; omega), trivial⟩ (by dsimp only; rw [hlw.2, Pool.wc_append, Pool.wc_one, List.length_append]; rfl)⟩)
                          · first
                            | fail
                            | skip
                              clear H322; intro H373
                              try simp only [decide_eq_true_eq, decide_eq_false_iff_not, Bool.not_eq_true', Bool.not_eq_false', Bool.and_eq_true, Bool.not_eq_true, Bool.not_eq_false] at hg323
                              have hd2 := Decidable.not_not.1 hg323
                              refine qskip rfl rfl rfl H373 ?_
                              clear H373; intro a374 H374
                              refine qskip rfl rfl rfl H374 ?_
                              clear H374; intro a375 H375
                              refine qskip rfl rfl rfl H375 ?_
                              clear H375; intro a376 H376
                              refine qskip rfl rfl rfl H376 ?_
                              clear H376; intro a377 H377
                              refine qskip rfl rfl rfl H377 ?_
                              clear H377; intro a378 H378
                              refine qskip rfl rfl rfl H378 ?_
                              clear H378; intro a379 H379
                              refine qskip rfl rfl rfl H379 ?_
                              clear H379; intro a380 H380
                              refine qskip rfl rfl rfl H380 ?_
                              clear H380; intro a381 H381
                              refine qskip rfl rfl rfl H381 ?_
                              clear H381; intro a382 H382
                              refine qskip rfl rfl rfl H382 ?_
                              clear H382; intro a383 H383
                              refine qskip rfl rfl rfl H383 ?_
                              clear H383; intro a384 H384
                              refine qplain (y_pick_f rfl rfl rfl) rfl rfl rfl H384 ?_
                              clear H384; intro a385 H385
                              refine qfin H385 ?_
                              clear H385; intro wx386 H386
                              refine then_n ?_
                              refine cnd_f H386 rfl ?_
                              refine wp_skip ?_
                              refine then_n ?_
                              refine reg ?_
                              refine plain (y_move rfl rfl) rfl rfl rfl H386 ?_
                              clear H386; intro a388 H388
                              refine plain (y_move rfl rfl) rfl rfl rfl H388 ?_
                              clear H388; intro a389 H389
                              refine plain (y_nilCheck rfl rfl) rfl rfl rfl H389 ?_
                              clear H389; intro a390 H390
                              refine plain (y_fieldB rfl z_field32_1 rfl (by first | (simp only [Nat.zero_add, Nat.add_zero, Nat.reduceAdd]; rfl) | rfl)) rfl rfl rfl H390 ?_
                              clear H390; intro a391 H391
                              refine plain (y_loadB rfl z_agg30 rfl (by repeat (first | exact Mh | apply Mt)) q_ix_c2_1) rfl rfl rfl H391 ?_
                              clear H391; intro a392 H392
                              refine plain (y_move rfl rfl) rfl rfl rfl H392 ?_
                              clear H392; intro a393 H393
                              refine plain (y_ixR rfl Try.underlying30 z_size38 rfl rfl (by omega) (by omega) (rd_row (by repeat (first | exact Mh | apply Mt))) (by first | (rw [Pool.wc_len hL]; omega) | (rw [Pool.wc_len hLL]; omega))) rfl rfl rfl H393 ?_
                              clear H393; intro a394 H394
                              refine plain (y_loadAS rfl z_agg38 z_size38 rfl (rd_row (by repeat (first | exact Mh | apply Mt))) (show _ = Pool.Wait.cells ((Pool.left size L).getD k Pool.Wait.zero) from Pool.wc_take hLL k hkl) hwk.len (by decide)) rfl rfl rfl H394 ?_
                              clear H394; intro a395 H395
                              refine st_buildSlice rfl Try.underlying30 z_size38 z_zero38 rfl rfl rfl (lay_agg (agg_cells _) hwk.len rfl) rfl rfl rfl H395 ?_
                              clear H395; intro b396 a396 wx396 H396
                              refine st_append rfl z_slice30 z_notint30 rfl rfl (fun _ => (by repeat (first | exact Uh | apply Ut))) (fun w hs => Src.slice ((rd_blkA (by repeat (first | exact Mh | apply Mt))) w hs) hwk.len (Pool.wait_cell _)) (by unfold maxLen at *; omega) (by omega) rfl rfl rfl H396 ?_
                              clear H396; intro v397 a397 wx397 hnil397 H397
                              obtain ⟨ArQ, crQ, hvrQ, hRrQ, hmrQ⟩ := row_shape (v := v397) H397.sep (by repeat (first | exact Mh | apply Mt))
                              subst hvrQ
                              refine plain (y_assign rfl rfl) rfl rfl rfl H397 ?_
                              clear H397; intro a398 H398
                              refine fin ?_
                              refine inb_n ?_
                              refine then_n ?_
                              refine reg ?_
                              refine plain (y_move rfl rfl) rfl rfl rfl H398 ?_
                              clear H398; intro a399 H399
                              refine plain (y_add rfl rfl rfl (by first | exact w64 (by omega) (by omega) | rfl)) rfl rfl rfl H399 ?_
                              clear H399; intro a400 H400
                              refine plain (y_assign rfl rfl) rfl rfl rfl H400 ?_
                              clear H400; intro a401 H401
                              refine fin ?_
                              refine then_n ?_
                              first | (have hz := hx1; have hlw := (Pool.insTo_put hkl hd1 hx1); refine ⟨(k + 1, .slice ArQ ((Pool.insTo (Pool.left size L) x k).length + 1 + 1) crQ), by dsimp only; omega, by dsimp only; omega, (H401.drop (List.Sublist.cons _ (List.Sublist.cons _ (List.Sublist.refl _)))).weak ⟨rfl, rfl, rfl, rfl, rfl, rfl, rfl, rfl, (fv rfl (by rw [decide_eq_true hlw.1])), fi rfl (by dsimp only; omega), trivial⟩ (by dsimp only; rw [hlw.2, Pool.wc_append, Pool.wc_append, Pool.wc_one, Pool.wc_one, List.length_append, List.length_append]; rfl)⟩) | (have hz := hx2; have hlw := (Pool.insTo_not hkl hd1 hx2); refine ⟨(k + 1, .slice ArQ ((Pool.insTo (Pool.left size L) x k).length + 1) crQ), by dsimp only; omega, by dsimp only; omega, (H401.drop (List.Sublist.cons _ (List.Sublist.refl _))).weak ⟨rfl, rfl, rfl, rfl, rfl, rfl, rfl, rfl, (fv rfl (by rw [decide_eq_false hlw.1, decide_eq_false hd1])), fi rfl (by dsimp only; omega), trivial⟩ (by dsimp only; rw [hlw.2, Pool.wc_append, Pool.wc_one, List.length_append]; rfl)⟩) | (have hz := hd2; have hlw := (Pool.insTo_more hkl hd2); refine ⟨(k + 1, .slice ArQ ((Pool.insTo (Pool.left size L) x k).length + 1) crQ), by dsimp only; omega, by dsimp only; omega, (H401.drop (List.Sublist.cons _ (List.Sublist.refl _))).weak ⟨rfl, rfl, rfl, rfl, rfl, rfl, rfl, rfl, (fv rfl (by rw [decide_eq_true hlw.1, decide_eq_true hd2])), fi rfl (by dsimp only; omega), trivial⟩ (by dsimp only; rw [hlw.2, Pool.wc_append, Pool.wc_one, List.length_append]; rfl)⟩)
                        · skip
                          try simp only [decide_eq_true_eq, decide_eq_false_iff_not, Bool.not_eq_true', Bool.not_eq_false', Bool.and_eq_true, Bool.not_eq_true, Bool.not_eq_false] at hc318
                          refine wp_exit ?_
                          refine then_x ?_
                          refine then_x ?_
                          refine inb_hit ?_
                          refine then_n ?_
                          refine wp_seq ?_
                          refine wp_seq ?_
                          refine reg ?_
                          refine plain (y_move rfl rfl) rfl rfl rfl H317 ?_
                          clear H317; intro a402 H402
                          refine plain ((by first | exact y_not_d rfl rfl | exact y_not rfl rfl)) rfl rfl rfl H402 ?_
                          clear H402; intro a403 H403
                          refine fin ?_
                          refine then_n ?_
                          refine wp_cut (fun aC wC => ∃ vW : Value, St Try.f11.ntmps (fps [It.row 38 76 (.slice A L.length cc) L.length (Pool.wc L), It.blk xp 32 [i64 size, (.slice A L.length cc)]]) w ([(0, .pointer (some ⟨xp, 0, none⟩)), (3, .pointer (some ⟨b1, 0, none⟩)), (4, .pointer (some ⟨b2, 0, none⟩)), (5, .bool false), (6, .int .i64 0), (9, .pointer (some ⟨b218, 0, none⟩)), (10, .bool (decide ((L.length : Int) = size))), (12, vW)]) ([It.row 38 76 vW (Pool.ins (Pool.left size L) x).length (Pool.wc (Pool.ins (Pool.left size L) x)), It.row 38 76 (.slice A3 (Pool.left size L).length c3) (Pool.left size L).length (Pool.wc (Pool.left size L)), It.blk xp 32 [i64 size, (.slice A3 (Pool.left size L).length c3)], It.blk b218 38 (Pool.Wait.cells (Pool.outOf size L)), It.blk b2 38 (Pool.Wait.cells Pool.Wait.zero), It.blk b1 38 (Pool.Wait.cells x)]) aC wC) ?_ ?_
                          · skip
                            refine cnd H403 rfl (fun hc404 => ?_) (fun hc404 => ?_) -- cond 17
                            · skip
                              try simp only [decide_eq_true_eq, decide_eq_false_iff_not, Bool.not_eq_true', Bool.not_eq_false', Bool.and_eq_true, Bool.not_eq_true, Bool.not_eq_false] at hc404
                              have he1 := hc404
                              refine reg ?_
                              refine plain (y_move rfl rfl) rfl rfl rfl H403 ?_
                              clear H403; intro a405 H405
                              refine plain (y_loadAB rfl z_agg38 z_size38 rfl (by repeat (first | exact Mh | apply Mt)) (q_ld_c8b32b32c4_0_76 (by assumption) (by assumption)) (q_len_c8b32b32c4 (by assumption) (by assumption))) rfl rfl rfl H405 ?_
                              clear H405; intro a406 H406
                              refine st_buildSlice rfl Try.underlying30 z_size38 z_zero38 rfl rfl rfl (lay_agg (agg_cells _) wx.len rfl) rfl rfl rfl H406 ?_
                              clear H406; intro b407 a407 wx407 H407
                              refine st_append rfl z_slice30 z_notint30 rfl rfl (fun _ => (by repeat (first | exact Uh | apply Ut))) (fun w hs => Src.slice ((rd_blkA (by repeat (first | exact Mh | apply Mt))) w hs) wx.len (Pool.wait_cell _)) (by unfold maxLen at *; omega) (by omega) rfl rfl rfl H407 ?_
                              clear H407; intro v408 a408 wx408 hnil408 H408
                              obtain ⟨ArZ, crZ, hvrZ, hRrZ, hmrZ⟩ := row_shape (v := v408) H408.sep (by repeat (first | exact Mh | apply Mt))
                              subst hvrZ
                              refine plain (y_assign rfl rfl) rfl rfl rfl H408 ?_
                              clear H408; intro a409 H409
                              refine fin ?_
                              refine cut_n ?_
                              first | (have hz := he1; refine ⟨.slice ArZ ((Pool.insTo (Pool.left size L) x k).length + 1) crZ, (H409.drop (List.Sublist.cons _ (List.Sublist.refl _))).weak ⟨rfl, rfl, rfl, rfl, rfl, rfl, rfl, rfl, trivial⟩ (by rw [← Pool.insTo_end (show k = _ by omega) he1, Pool.wc_append, Pool.wc_one, List.length_append]; rfl)⟩) | (refine ⟨.slice A1 (Pool.insTo (Pool.left size L) x k).length c1, H409.weak ⟨rfl, rfl, rfl, rfl, rfl, rfl, rfl, rfl, trivial⟩ (by rw [← Pool.insTo_in (show k = _ by omega) he2])⟩)
                            · skip
                              try simp only [decide_eq_true_eq, decide_eq_false_iff_not, Bool.not_eq_true', Bool.not_eq_false', Bool.and_eq_true, Bool.not_eq_true, Bool.not_eq_false] at hc404
                              have he2 := Decidable.not_not.1 hc404
                              refine wp_skip ?_
                              refine cut_n ?_
                              first | (have hz := he1; refine ⟨.slice ArZ ((Pool.insTo (Pool.left size L) x k).length + 1) crZ, (H403.drop (List.Sublist.cons _ (List.Sublist.refl _))).weak ⟨rfl, rfl, rfl, rfl, rfl, rfl, rfl, rfl, trivial⟩ (by rw [← Pool.insTo_end (show k = _ by omega) he1, Pool.wc_append, Pool.wc_one, List.length_append]; rfl)⟩) | (refine ⟨.slice A1 (Pool.insTo (Pool.left size L) x k).length c1, H403.weak ⟨rfl, rfl, rfl, rfl, rfl, rfl, rfl, rfl, trivial⟩ (by rw [← Pool.insTo_in (show k = _ by omega) he2])⟩)
                          · clear H403; intro a410 wx410 hI410
                            obtain ⟨vW, H410⟩ := hI410
                            refine then_n ?_
                            refine wp_seq ?_
                            obtain ⟨A5, c5, rfl, hR5, hm5⟩ := row_shape (v := vW) H410.sep (by repeat (first | exact Mh | apply Mt))
                            refine reg ?_
                            refine plain (y_move rfl rfl) rfl rfl rfl H410 ?_
                            clear H410; intro a411 H411
                            refine plain (y_move rfl rfl) rfl rfl rfl H411 ?_
                            clear H411; intro a412 H412
                            refine plain (y_nilCheck rfl rfl) rfl rfl rfl H412 ?_
                            clear H412; intro a413 H413
                            refine plain (y_fieldB rfl z_field32_1 rfl (by first | (simp only [Nat.zero_add, Nat.add_zero, Nat.reduceAdd]; rfl) | rfl)) rfl rfl rfl H413 ?_
                            clear H413; intro a414 H414
                            refine st_store1N rfl z_size30 rfl rfl rfl (by repeat (first | exact Uh | apply Ut)) q_len_c2 q_set_c2_1 (by decide) rfl rfl H414 ?_
                            clear H414; intro wx415 H415
                            refine fin ?_
                            refine then_n ?_
                            refine wp_seq ?_
                            refine reg ?_
                            refine plain (y_loadAB rfl z_agg38 z_size38 rfl (by repeat (first | exact Mh | apply Mt)) (q_ld_c8b32b32c4_0_76 (by assumption) (by assumption)) (q_len_c8b32b32c4 (by assumption) (by assumption))) rfl rfl rfl H415 ?_
                            clear H415; intro a416 H416
                            refine plain (y_move rfl rfl) rfl rfl rfl H416 ?_
                            clear H416; intro a417 H417
                            refine st_storeN rfl z_size38 rfl rfl (agg_cells _) (by repeat (first | exact Uh | apply Ut)) (q_one_c8b32b32c4 rfl rfl rfl rfl rfl rfl rfl rfl rfl rfl rfl rfl) (q_len_c8b32b32c4 (by assumption) (by assumption)) (q_len_c8b32b32c4 (by assumption) (by assumption)) (q_spl_c8b32b32c4_0_c8b32b32c4 (by assumption) (by assumption) (by assumption) (by assumption)) (by decide) rfl rfl H417 ?_
                            clear H417; intro wx418 H418
                            refine plain (y_assign rfl rfl) rfl rfl rfl H418 ?_
                            clear H418; intro a419 H419
                            refine plain (y_assign rfl rfl) rfl rfl rfl H419 ?_
                            clear H419; intro a420 H420
                            refine fin ?_
                            refine then_n ?_
                            refine wp_ret ?_
                            -- return 9
                            refine retctt rfl H420 rfl z_agg38 z_size38 (by repeat (first | exact Mh | apply Mt)) (q_len_c8b32b32c4 (by assumption) (by assumption)) rfl rfl ?_
                            first | (have hz := hnr; rw [Pool.put_bad hnr]; exact ⟨_, _, rfl, ⟨rfl, (.slice A L.length cc), rfl⟩, H420.sep.sub (by repeat (first | exact S1 | exact S0 | apply S2 | apply S3))⟩) | (have hz := hnfz; have hsx := H420.sep.sub (l' := [It.row _ 76 (.slice A5 (Pool.ins (Pool.left size L) x).length c5) _ _, It.blk xp _ [i64 size, (.slice A5 (Pool.ins (Pool.left size L) x).length c5)]]) (by repeat (first | exact S1 | exact S0 | apply S2 | apply S3)); by_cases hgz : (L.length : Int) = size; (rw [(Pool.left_yes hgz).1] at hsx; rw [(Pool.left_yes hgz).2, Pool.put_gone (p := ⟨size, L⟩) hrt hnt (by dsimp only; omega) (hnfz hgz)]; exact ⟨_, _, rfl, ⟨by rw [decide_eq_true hgz]; rfl, _, rfl⟩, hsx⟩); (rw [(Pool.left_no hgz).1] at hsx; rw [(Pool.left_no hgz).2, Pool.put_room (p := ⟨size, L⟩) hrt hnt (by dsimp only; omega)]; exact ⟨_, _, rfl, ⟨by rw [decide_eq_false hgz]; rfl, _, rfl⟩, hsx⟩)) | (have hz := hful; rw [Pool.put_full (p := ⟨size, L⟩) hrt hnt (by dsimp only; omega) (by dsimp only; omega)]; exact ⟨_, _, rfl, ⟨rfl, (.slice A L.length cc), rfl⟩, H420.sep.sub (by repeat (first | exact S1 | exact S0 | apply S2 | apply S3))⟩) | (rw [Pool.put_twice (p := ⟨size, L⟩) hrt ⟨_, Pool.mem_getD hkl, by first | exact .inl (by assumption) | exact .inr ⟨by assumption, by assumption⟩⟩]; exact ⟨_, _, rfl, ⟨rfl, (.slice A L.length cc), rfl⟩, H420.sep.sub (by repeat (first | exact S1 | exact S0 | apply S2 | apply S3))⟩)

end Go.Proofs.Ytbdkgmkaakoigaa.P_R2

set_option linter.unusedVariables false
set_option linter.unusedSimpArgs false
namespace Go.Proofs.Ytbdkgmkaakoigaa.P_R3
open Go.Sx Go.RowKit Go.Proofs.Ytbdkgmkaakoigaa.P_EqT Go.Proofs.Ytbdkgmkaakoigaa.P_R1

theorem z_zeroN38 : zeroL Try.prog 38 = some ((.int .i64 0 :: (.int .i64 0 :: (.int .i64 0 :: (.int .i64 0 :: (.string ⟨#[]⟩ :: (.bool false :: (.int .i64 0 :: (.int .i64 0 :: ((List.replicate 32 (0 : UInt8)).map u8 ++ ((List.replicate 32 (0 : UInt8)).map u8 ++ (.int .i64 0 :: (.int .i64 0 :: (.int .i64 0 :: (.int .i64 0 :: []))))))))))))))) := by kernel_rfl
theorem z_places38 : placesB Try.prog 38 = some [(0, 72), (72, 1), (73, 1), (74, 1), (75, 1)] := by kernel_rfl
theorem z_size38 : sizeB Try.prog 38 = some 76 := by kernel_rfl
theorem q_one_c8b32b32c4 {a0 a1 a2 a3 a4 a5 a6 a7 a10 a11 a12 a13 : Value} {t8 t9 : List UInt8} (o0 : a0.oneCell' = true) (o1 : a1.oneCell' = true) (o2 : a2.oneCell' = true) (o3 : a3.oneCell' = true) (o4 : a4.oneCell' = true) (o5 : a5.oneCell' = true) (o6 : a6.oneCell' = true) (o7 : a7.oneCell' = true) (o10 : a10.oneCell' = true) (o11 : a11.oneCell' = true) (o12 : a12.oneCell' = true) (o13 : a13.oneCell' = true) : (a0 :: a1 :: a2 :: a3 :: a4 :: a5 :: a6 :: a7 :: (t8.map u8 ++ ((t9.map u8 ++ (a10 :: a11 :: a12 :: a13 :: []))))).all (·.oneCell') = true := (one_c o0 (one_c o1 (one_c o2 (one_c o3 (one_c o4 (one_c o5 (one_c o6 (one_c o7 (one_b (one_b (one_c o10 (one_c o11 (one_c o12 (one_c o13 one_n))))))))))))))
theorem q_len_c8b32b32c4 {a0 a1 a2 a3 a4 a5 a6 a7 a10 a11 a12 a13 : Value} {t8 t9 : List UInt8} (h8 : t8.length = 32) (h9 : t9.length = 32) : (a0 :: a1 :: a2 :: a3 :: a4 :: a5 :: a6 :: a7 :: (t8.map u8 ++ ((t9.map u8 ++ (a10 :: a11 :: a12 :: a13 :: []))))).length = 76 := (len_c (n := 75) (len_c (n := 74) (len_c (n := 73) (len_c (n := 72) (len_c (n := 71) (len_c (n := 70) (len_c (n := 69) (len_c (n := 68) (len_b (k := 32) (n := 36) h8 (len_b (k := 32) (n := 4) h9 (len_c (n := 3) (len_c (n := 2) (len_c (n := 1) (len_c (n := 0) len_n))))))))))))))
theorem q_spl_c8b32b32c4_0_c8b32b32c4 {a0 a1 a2 a3 a4 a5 a6 a7 a10 a11 a12 a13 : Value} {t8 t9 : List UInt8} {b0 b1 b2 b3 b4 b5 b6 b7 b10 b11 b12 b13 : Value} {s8 s9 : List UInt8} (h8 : t8.length = 32) (h9 : t9.length = 32) (g8 : s8.length = 32) (g9 : s9.length = 32) : spl (a0 :: a1 :: a2 :: a3 :: a4 :: a5 :: a6 :: a7 :: (t8.map u8 ++ ((t9.map u8 ++ (a10 :: a11 :: a12 :: a13 :: []))))) 0 (b0 :: b1 :: b2 :: b3 :: b4 :: b5 :: b6 :: b7 :: (s8.map u8 ++ ((s9.map u8 ++ (b10 :: b11 :: b12 :: b13 :: []))))) = b0 :: b1 :: b2 :: b3 :: b4 :: b5 :: b6 :: b7 :: (s8.map u8 ++ ((s9.map u8 ++ (b10 :: b11 :: b12 :: b13 :: [])))) := (spl_a (z := 76) (len_c (n := 75) (len_c (n := 74) (len_c (n := 73) (len_c (n := 72) (len_c (n := 71) (len_c (n := 70) (len_c (n := 69) (len_c (n := 68) (len_b (k := 32) (n := 36) h8 (len_b (k := 32) (n := 4) h9 (len_c (n := 3) (len_c (n := 2) (len_c (n := 1) (len_c (n := 0) len_n)))))))))))))) (len_c (n := 75) (len_c (n := 74) (len_c (n := 73) (len_c (n := 72) (len_c (n := 71) (len_c (n := 70) (len_c (n := 69) (len_c (n := 68) (len_b (k := 32) (n := 36) g8 (len_b (k := 32) (n := 4) g9 (len_c (n := 3) (len_c (n := 2) (len_c (n := 1) (len_c (n := 0) len_n)))))))))))))))
theorem z_field32_1 : fieldB Try.prog 32 1 = some 1 := by kernel_rfl
theorem z_agg30 : aggB Try.prog 30 = some false := by kernel_rfl
theorem q_ix_c2_1 {a0 a1 : Value} : (a0 :: a1 :: [])[1]? = some a1 := (ix_c (o := 0) ix_0)
theorem z_agg38 : aggB Try.prog 38 = some true := by kernel_rfl
theorem z_field38_3 : fieldB Try.prog 38 3 = some 74 := by kernel_rfl
theorem z_agg3 : aggB Try.prog 3 = some false := by kernel_rfl
theorem q_ix_c8b32b32c4_74 {a0 a1 a2 a3 a4 a5 a6 a7 a10 a11 a12 a13 : Value} {t8 t9 : List UInt8} (h8 : t8.length = 32) (h9 : t9.length = 32) : (a0 :: a1 :: a2 :: a3 :: a4 :: a5 :: a6 :: a7 :: (t8.map u8 ++ ((t9.map u8 ++ (a10 :: a11 :: a12 :: a13 :: [])))))[74]? = some a12 := (ix_c (o := 73) (ix_c (o := 72) (ix_c (o := 71) (ix_c (o := 70) (ix_c (o := 69) (ix_c (o := 68) (ix_c (o := 67) (ix_c (o := 66) (ix_b (k := 32) (o := 34) h8 rfl (ix_b (k := 32) (o := 2) h9 rfl (ix_c (o := 1) (ix_c (o := 0) ix_0))))))))))))
theorem z_field38_0 : fieldB Try.prog 38 0 = some 0 := by kernel_rfl
theorem z_field36_1 : fieldB Try.prog 36 1 = some 1 := by kernel_rfl
theorem q_ix_c8b32b32c4_1 {a0 a1 a2 a3 a4 a5 a6 a7 a10 a11 a12 a13 : Value} {t8 t9 : List UInt8} : (a0 :: a1 :: a2 :: a3 :: a4 :: a5 :: a6 :: a7 :: (t8.map u8 ++ ((t9.map u8 ++ (a10 :: a11 :: a12 :: a13 :: [])))))[1]? = some a1 := (ix_c (o := 0) ix_0)
theorem z_field36_0 : fieldB Try.prog 36 0 = some 0 := by kernel_rfl
theorem q_ix_c8b32b32c4_0 {a0 a1 a2 a3 a4 a5 a6 a7 a10 a11 a12 a13 : Value} {t8 t9 : List UInt8} : (a0 :: a1 :: a2 :: a3 :: a4 :: a5 :: a6 :: a7 :: (t8.map u8 ++ ((t9.map u8 ++ (a10 :: a11 :: a12 :: a13 :: [])))))[0]? = some a0 := ix_0
theorem z_size3 : sizeB Try.prog 3 = some 1 := by kernel_rfl
theorem q_ld_c8b32b32c4_0_76 {a0 a1 a2 a3 a4 a5 a6 a7 a10 a11 a12 a13 : Value} {t8 t9 : List UInt8} (h8 : t8.length = 32) (h9 : t9.length = 32) : ((a0 :: a1 :: a2 :: a3 :: a4 :: a5 :: a6 :: a7 :: (t8.map u8 ++ ((t9.map u8 ++ (a10 :: a11 :: a12 :: a13 :: []))))).drop 0).take 76 = a0 :: a1 :: a2 :: a3 :: a4 :: a5 :: a6 :: a7 :: (t8.map u8 ++ ((t9.map u8 ++ (a10 :: a11 :: a12 :: a13 :: [])))) := (ld_a (len_c (n := 75) (len_c (n := 74) (len_c (n := 73) (len_c (n := 72) (len_c (n := 71) (len_c (n := 70) (len_c (n := 69) (len_c (n := 68) (len_b (k := 32) (n := 36) h8 (len_b (k := 32) (n := 4) h9 (len_c (n := 3) (len_c (n := 2) (len_c (n := 1) (len_c (n := 0) len_n)))))))))))))))
theorem z_call21 : callB Try.prog 21 = true := by kernel_rfl
theorem q_set_c8b32b32c4_74 {a0 a1 a2 a3 a4 a5 a6 a7 a10 a11 a12 a13 : Value} {t8 t9 : List UInt8} {v : Value} (h8 : t8.length = 32) (h9 : t9.length = 32) : (a0 :: a1 :: a2 :: a3 :: a4 :: a5 :: a6 :: a7 :: (t8.map u8 ++ ((t9.map u8 ++ (a10 :: a11 :: a12 :: a13 :: []))))).set 74 v = a0 :: a1 :: a2 :: a3 :: a4 :: a5 :: a6 :: a7 :: (t8.map u8 ++ ((t9.map u8 ++ (a10 :: a11 :: v :: a13 :: [])))) := (set_c (o := 73) (set_c (o := 72) (set_c (o := 71) (set_c (o := 70) (set_c (o := 69) (set_c (o := 68) (set_c (o := 67) (set_c (o := 66) (set_b (k := 32) (o := 34) h8 rfl (set_b (k := 32) (o := 2) h9 rfl (set_c (o := 1) (set_c (o := 0) set_0))))))))))))
theorem z_field38_4 : fieldB Try.prog 38 4 = some 75 := by kernel_rfl
theorem q_ix_c8b32b32c4_75 {a0 a1 a2 a3 a4 a5 a6 a7 a10 a11 a12 a13 : Value} {t8 t9 : List UInt8} (h8 : t8.length = 32) (h9 : t9.length = 32) : (a0 :: a1 :: a2 :: a3 :: a4 :: a5 :: a6 :: a7 :: (t8.map u8 ++ ((t9.map u8 ++ (a10 :: a11 :: a12 :: a13 :: [])))))[75]? = some a13 := (ix_c (o := 74) (ix_c (o := 73) (ix_c (o := 72) (ix_c (o := 71) (ix_c (o := 70) (ix_c (o := 69) (ix_c (o := 68) (ix_c (o := 67) (ix_b (k := 32) (o := 35) h8 rfl (ix_b (k := 32) (o := 3) h9 rfl (ix_c (o := 2) (ix_c (o := 1) (ix_c (o := 0) ix_0)))))))))))))
theorem q_set_c8b32b32c4_75 {a0 a1 a2 a3 a4 a5 a6 a7 a10 a11 a12 a13 : Value} {t8 t9 : List UInt8} {v : Value} (h8 : t8.length = 32) (h9 : t9.length = 32) : (a0 :: a1 :: a2 :: a3 :: a4 :: a5 :: a6 :: a7 :: (t8.map u8 ++ ((t9.map u8 ++ (a10 :: a11 :: a12 :: a13 :: []))))).set 75 v = a0 :: a1 :: a2 :: a3 :: a4 :: a5 :: a6 :: a7 :: (t8.map u8 ++ ((t9.map u8 ++ (a10 :: a11 :: a12 :: v :: [])))) := (set_c (o := 74) (set_c (o := 73) (set_c (o := 72) (set_c (o := 71) (set_c (o := 70) (set_c (o := 69) (set_c (o := 68) (set_c (o := 67) (set_b (k := 32) (o := 35) h8 rfl (set_b (k := 32) (o := 3) h9 rfl (set_c (o := 2) (set_c (o := 1) (set_c (o := 0) set_0)))))))))))))
theorem z_field38_1 : fieldB Try.prog 38 1 = some 72 := by kernel_rfl
theorem q_ix_c8b32b32c4_72 {a0 a1 a2 a3 a4 a5 a6 a7 a10 a11 a12 a13 : Value} {t8 t9 : List UInt8} (h8 : t8.length = 32) (h9 : t9.length = 32) : (a0 :: a1 :: a2 :: a3 :: a4 :: a5 :: a6 :: a7 :: (t8.map u8 ++ ((t9.map u8 ++ (a10 :: a11 :: a12 :: a13 :: [])))))[72]? = some a10 := (ix_c (o := 71) (ix_c (o := 70) (ix_c (o := 69) (ix_c (o := 68) (ix_c (o := 67) (ix_c (o := 66) (ix_c (o := 65) (ix_c (o := 64) (ix_b (k := 32) (o := 32) h8 rfl (ix_b (k := 32) (o := 0) h9 rfl ix_0))))))))))
theorem z_zero38 : zeroL Try.prog 38 = some ([.int .i64 0, .int .i64 0, .int .i64 0, .int .i64 0, .string ⟨#[]⟩, .bool false, .int .i64 0, .int .i64 0, .int .u8 0, .int .u8 0, .int .u8 0, .int .u8 0, .int .u8 0, .int .u8 0, .int .u8 0, .int .u8 0, .int .u8 0, .int .u8 0, .int .u8 0, .int .u8 0, .int .u8 0, .int .u8 0, .int .u8 0, .int .u8 0, .int .u8 0, .int .u8 0, .int .u8 0, .int .u8 0, .int .u8 0, .int .u8 0, .int .u8 0, .int .u8 0, .int .u8 0, .int .u8 0, .int .u8 0, .int .u8 0, .int .u8 0, .int .u8 0, .int .u8 0, .int .u8 0, .int .u8 0, .int .u8 0, .int .u8 0, .int .u8 0, .int .u8 0, .int .u8 0, .int .u8 0, .int .u8 0, .int .u8 0, .int .u8 0, .int .u8 0, .int .u8 0, .int .u8 0, .int .u8 0, .int .u8 0, .int .u8 0, .int .u8 0, .int .u8 0, .int .u8 0, .int .u8 0, .int .u8 0, .int .u8 0, .int .u8 0, .int .u8 0, .int .u8 0, .int .u8 0, .int .u8 0, .int .u8 0, .int .u8 0, .int .u8 0, .int .u8 0, .int .u8 0, .int .i64 0, .int .i64 0, .int .i64 0, .int .i64 0]) := by kernel_rfl
theorem z_slice30 : sliceB Try.prog 30 = some (38, 76, 168) := by kernel_rfl
theorem z_notint30 : notIntB Try.prog 30 = true := by kernel_rfl
theorem z_size30 : sizeB Try.prog 30 = some 1 := by kernel_rfl
theorem q_len_c2 {a0 a1 : Value} : (a0 :: a1 :: []).length = 2 := (len_c (n := 1) (len_c (n := 0) len_n))
theorem q_set_c2_1 {a0 a1 : Value} {v : Value} : (a0 :: a1 :: []).set 1 v = a0 :: v :: [] := (set_c (o := 0) set_0)

set_option maxRecDepth 100000 in
set_option maxHeartbeats 8000000 in
theorem xnext (L : List Pool.Wait) (hL : Pool.Wfs L) (size : Int) (xp : Nat) (v : Value) (hlen : L.length ≤ 1000) (hg : Pool.Good ⟨size, L⟩) (nx : List Int) (h64 : nx.length = 64) (mb : Nat) (now : Int) {w : World} (hs : Sep (fps [It.row 38 76 v L.length (Pool.wc L), It.blk xp 32 [i64 size, v], It.blk mb 3 (nx.map i64)]) w w [It.row 38 76 v L.length (Pool.wc L), It.blk xp 32 [i64 size, v], It.blk mb 3 (nx.map i64)]) : Calls Try.prog 17 #[.pointer (some ⟨xp, 0, none⟩), .int .i64 now, .slice (some ⟨mb, 0, none⟩) 64 64] w (Post (fps [It.row 38 76 v L.length (Pool.wc L), It.blk xp 32 [i64 size, v], It.blk mb 3 (nx.map i64)]) w fun u l' => u = .tuple #[.agg (Pool.Wait.cells (Pool.next ⟨size, L⟩ nx now).2.1).toArray, .bool (Pool.next ⟨size, L⟩ nx now).2.2] ∧ ∃ v', l' = [It.row 38 76 v' (Pool.next ⟨size, L⟩ nx now).1.L.length (Pool.wc (Pool.next ⟨size, L⟩ nx now).1.L), It.blk xp 32 [i64 size, v'], It.blk mb 3 (nx.map i64)]) := by
  obtain ⟨A, cc, rfl, hRx, hmx⟩ := row_shape (v := v) hs (by repeat (first | exact Mh | apply Mt))
  have hcap := row_cap (A := A) (c := cc) hs (by repeat (first | exact Mh | apply Mt))
  have lz32 : (List.replicate 32 (0 : UInt8)).length = 32 := List.length_replicate
  refine enterL (args := [.pointer (some ⟨xp, 0, none⟩), .int .i64 now, .slice (some ⟨mb, 0, none⟩) 64 64]) Try.func17 rfl rfl (l := [It.row 38 76 (.slice A L.length cc) L.length (Pool.wc L), It.blk xp 32 [i64 size, (.slice A L.length cc)], It.blk mb 3 (nx.map i64)]) hs ?_
  intro a0 H0
  refine wp_seq ?_
  refine reg ?_
  refine st_alloc rfl z_zeroN38 rfl rfl rfl H0 ?_
  clear H0; intro b1 a1 wx1 H1
  refine plain (y_assign rfl rfl) rfl rfl rfl H1 ?_
  clear H1; intro a2 H2
  refine fin ?_
  refine then_n ?_
  refine wp_seq ?_
  refine reg ?_
  refine plain (y_build rfl z_zeroN38 z_places38 rfl lay_n) rfl rfl rfl H2 ?_
  clear H2; intro a3 H3
  refine st_alloc rfl z_zeroN38 rfl rfl rfl H3 ?_
  clear H3; intro b4 a4 wx4 H4
  refine st_storeN rfl z_size38 rfl rfl (agg_cells _) (by repeat (first | exact Uh | apply Ut)) (q_one_c8b32b32c4 rfl rfl rfl rfl rfl rfl rfl rfl rfl rfl rfl rfl) (q_len_c8b32b32c4 (by assumption) (by assumption)) (q_len_c8b32b32c4 (by assumption) (by assumption)) (q_spl_c8b32b32c4_0_c8b32b32c4 (by assumption) (by assumption) (by assumption) (by assumption)) (by decide) rfl rfl H4 ?_
  clear H4; intro wx5 H5
  refine fin ?_
  refine then_n ?_
  refine wp_seq ?_
  refine reg ?_
  refine plain (y_assign rfl rfl) rfl rfl rfl H5 ?_
  clear H5; intro a6 H6
  refine fin ?_
  refine then_n ?_
  refine wp_seq ?_
  refine wp_seq ?_
  refine reg ?_
  refine plain (y_assign rfl rfl) rfl rfl rfl H6 ?_
  clear H6; intro a7 H7
  refine fin ?_
  refine then_n ?_
  refine wp_block ?_
  refine loop (ι := Nat) (fun k => [(0, .pointer (some ⟨xp, 0, none⟩)), (1, .int .i64 now), (2, .slice (some ⟨mb, 0, none⟩) 64 64), (6, .pointer (some ⟨b1, 0, none⟩)), (7, .bool false), (8, .pointer (some ⟨b4, 0, none⟩)), (9, .bool (Pool.found L nx now k)), (10, .int .i64 (k : Int))]) (fun k => [It.blk b4 38 (Pool.Wait.cells (Pool.bestOf L nx now k)), It.blk b1 38 (Pool.Wait.cells Pool.Wait.zero), It.row 38 76 (.slice A L.length cc) L.length (Pool.wc L), It.blk xp 32 [i64 size, (.slice A L.length cc)], It.blk mb 3 (nx.map i64)]) (fun k => k ≤ L.length) (fun k => L.length - k) (0) (Nat.zero_le _) (H7.weak ⟨rfl, rfl, rfl, rfl, rfl, rfl, rfl, rfl, trivial⟩ rfl) ?_
  clear H7; intro k a8 wx8 hok8 H8
  have hok := hok8
  have hwb := Pool.best_wf hL (nx := nx) (now := now) hok
  have wb1 := hwb.tx.hand
  have wb2 := hwb.tx.tag
  refine wp_seq ?_
  refine wp_seq ?_
  refine reg ?_
  refine plain (y_move rfl rfl) rfl rfl rfl H8 ?_
  clear H8; intro a9 H9
  refine plain (y_move rfl rfl) rfl rfl rfl H9 ?_
  clear H9; intro a10 H10
  refine plain (y_nilCheck rfl rfl) rfl rfl rfl H10 ?_
  clear H10; intro a11 H11
  refine plain (y_fieldB rfl z_field32_1 rfl (by first | (simp only [Nat.zero_add, Nat.add_zero, Nat.reduceAdd]; rfl) | rfl)) rfl rfl rfl H11 ?_
  clear H11; intro a12 H12
  refine plain (y_loadB rfl z_agg30 rfl (by repeat (first | exact Mh | apply Mt)) q_ix_c2_1) rfl rfl rfl H12 ?_
  clear H12; intro a13 H13
  refine plain (y_len rfl Try.underlying30 rfl) rfl rfl rfl H13 ?_
  clear H13; intro a14 H14
  refine plain (y_lss rfl rfl rfl) rfl rfl rfl H14 ?_
  clear H14; intro a15 H15
  refine fin ?_
  refine then_n ?_
  refine cnd H15 rfl (fun hc16 => ?_) (fun hc16 => ?_) -- cond 1
  · skip
    try simp only [decide_eq_true_eq, decide_eq_false_iff_not, Bool.not_eq_true', Bool.not_eq_false', Bool.and_eq_true, Bool.not_eq_true, Bool.not_eq_false] at hc16
    refine wp_skip ?_
    refine then_n ?_
    refine wp_seq ?_
    refine wp_block ?_
    refine wp_seq ?_
    have hkl : k < L.length := by omega
    have hwk := hL.at_ hkl
    have whd := hwk.tx.hand
    have wtg := hwk.tx.tag
    have hri : Pool.right (L.getD k Pool.Wait.zero) := hg.right _ (Pool.mem_getD (L := L) hkl)
    have hsrc := Pool.src_ok hri
    refine reg ?_
    refine plain (y_move rfl rfl) rfl rfl rfl H15 ?_
    clear H15; intro a17 H17
    refine plain (y_nilCheck rfl rfl) rfl rfl rfl H17 ?_
    clear H17; intro a18 H18
    refine plain (y_fieldB rfl z_field32_1 rfl (by first | (simp only [Nat.zero_add, Nat.add_zero, Nat.reduceAdd]; rfl) | rfl)) rfl rfl rfl H18 ?_
    clear H18; intro a19 H19
    refine plain (y_loadB rfl z_agg30 rfl (by repeat (first | exact Mh | apply Mt)) q_ix_c2_1) rfl rfl rfl H19 ?_
    clear H19; intro a20 H20
    refine plain (y_move rfl rfl) rfl rfl rfl H20 ?_
    clear H20; intro a21 H21
    refine plain (y_ixR rfl Try.underlying30 z_size38 rfl rfl (by omega) (by omega) (rd_row (by repeat (first | exact Mh | apply Mt))) (by rw [Pool.wc_len hL]; omega)) rfl rfl rfl H21 ?_
    clear H21; intro a22 H22
    refine plain (y_loadAS rfl z_agg38 z_size38 rfl (rd_row (by repeat (first | exact Mh | apply Mt))) (show _ = Pool.Wait.cells (L.getD k Pool.Wait.zero) from Pool.wc_take hL k hkl) hwk.len (by decide)) rfl rfl rfl H22 ?_
    clear H22; intro a23 H23
    refine st_alloc rfl z_zeroN38 rfl rfl rfl H23 ?_
    clear H23; intro b24 a24 wx24 H24
    refine st_storeN rfl z_size38 rfl rfl (agg_cells _) (by repeat (first | exact Uh | apply Ut)) (q_one_c8b32b32c4 rfl rfl rfl rfl rfl rfl rfl rfl rfl rfl rfl rfl) (q_len_c8b32b32c4 (by assumption) (by assumption)) (q_len_c8b32b32c4 (by assumption) (by assumption)) (q_spl_c8b32b32c4_0_c8b32b32c4 (by assumption) (by assumption) (by assumption) (by assumption)) (by decide) rfl rfl H24 ?_
    clear H24; intro wx25 H25
    refine fin ?_
    refine then_n ?_
    refine wp_seq ?_
    refine qreg (by kernel_rfl) (by kernel_rfl) H25 ?_
    have F26 := H25.fr
    clear H25
    refine qplain (y_fieldB rfl z_field38_3 rfl (by first | (simp only [Nat.zero_add, Nat.add_zero, Nat.reduceAdd]; rfl) | rfl)) rfl rfl rfl F26 ?_
    clear F26; intro a27 H27
    refine qplain (y_loadB rfl z_agg3 rfl (by repeat (first | exact Mh | apply Mt)) (q_ix_c8b32b32c4_74 (by assumption) (by assumption))) rfl rfl rfl H27 ?_
    clear H27; intro a28 H28
    refine qplain (y_move rfl rfl) rfl rfl rfl H28 ?_
    clear H28; intro a29 H29
    refine qplain (y_leq rfl rfl rfl) rfl rfl rfl H29 ?_
    clear H29; intro a30 H30
    refine qplain (y_move rfl rfl) rfl rfl rfl H30 ?_
    clear H30; intro a31 H31
    refine qpart (d := 36) H31 rfl (fun hg32 => ?_) (fun hg32 => ?_)
    · first
      | fail
      | skip
        clear H31; intro H33
        try simp only [decide_eq_true_eq, decide_eq_false_iff_not, Bool.not_eq_true', Bool.not_eq_false', Bool.and_eq_true, Bool.not_eq_true, Bool.not_eq_false] at hg32
        refine qplain (y_fieldB rfl z_field38_0 rfl (by first | (simp only [Nat.zero_add, Nat.add_zero, Nat.reduceAdd]; rfl) | rfl)) rfl rfl rfl H33 ?_
        clear H33; intro a34 H34
        refine qplain (y_fieldB rfl z_field36_1 rfl (by first | (simp only [Nat.zero_add, Nat.add_zero, Nat.reduceAdd]; rfl) | rfl)) rfl rfl rfl H34 ?_
        clear H34; intro a35 H35
        refine qplain (y_loadB rfl z_agg3 rfl (by repeat (first | exact Mh | apply Mt)) q_ix_c8b32b32c4_1) rfl rfl rfl H35 ?_
        clear H35; intro a36 H36
        refine qplain (y_move rfl rfl) rfl rfl rfl H36 ?_
        clear H36; intro a37 H37
        refine qplain (y_fieldB rfl z_field38_0 rfl (by first | (simp only [Nat.zero_add, Nat.add_zero, Nat.reduceAdd]; rfl) | rfl)) rfl rfl rfl H37 ?_
        clear H37; intro a38 H38
        refine qplain (y_fieldB rfl z_field36_0 rfl (by first | (simp only [Nat.zero_add, Nat.add_zero, Nat.reduceAdd]; rfl) | rfl)) rfl rfl rfl H38 ?_
        clear H38; intro a39 H39
        refine qplain (y_loadB rfl z_agg3 rfl (by repeat (first | exact Mh | apply Mt)) q_ix_c8b32b32c4_0) rfl rfl rfl H39 ?_
        clear H39; intro a40 H40
        refine qplain (y_ixL rfl Try.underlying23 z_size3 rfl rfl (by omega) (by omega) rfl) rfl rfl rfl H40 ?_
        clear H40; intro a41 H41
        refine qplain (y_loadB rfl z_agg3 rfl (by repeat (first | exact Mh | apply Mt)) (i64_getI nx (L.getD k Pool.Wait.zero).tx.src (by omega) (by omega))) rfl rfl rfl H41 ?_
        clear H41; intro a42 H42
        refine qplain (y_eql rfl rfl rfl) rfl rfl rfl H42 ?_
        clear H42; intro a43 H43
        refine qplain (y_pick_t rfl rfl rfl) rfl rfl rfl H43 ?_
        clear H43; intro a44 H44
        refine qplain (y_move rfl rfl) rfl rfl rfl H44 ?_
        clear H44; intro a45 H45
        refine qpart (d := 48) H45 rfl (fun hg46 => ?_) (fun hg46 => ?_)
        · first
          | fail
          | skip
            clear H45; intro H47
            try simp only [decide_eq_true_eq, decide_eq_false_iff_not, Bool.not_eq_true', Bool.not_eq_false', Bool.and_eq_true, Bool.not_eq_true, Bool.not_eq_false] at hg46
            refine qplain (y_move rfl rfl) rfl rfl rfl H47 ?_
            clear H47; intro a48 H48
            refine qplain ((by first | exact y_not_d rfl rfl | exact y_not rfl rfl)) rfl rfl rfl H48 ?_
            clear H48; intro a49 H49
            refine qplain (y_move rfl rfl) rfl rfl rfl H49 ?_
            clear H49; intro a50 H50
            refine qpart (d := 51) H50 rfl (fun hg51 => ?_) (fun hg51 => ?_)
            · first
              | fail
              | skip
                clear H50; intro H52
                try simp only [decide_eq_true_eq, decide_eq_false_iff_not, Bool.not_eq_true', Bool.not_eq_false', Bool.and_eq_true, Bool.not_eq_true, Bool.not_eq_false] at hg51
                refine qskip rfl rfl rfl H52 ?_
                clear H52; intro a53 H53
                refine qskip rfl rfl rfl H53 ?_
                clear H53; intro a54 H54
                refine qskip rfl rfl rfl H54 ?_
                clear H54; intro a55 H55
                refine qplain (y_pick_t rfl rfl rfl) rfl rfl rfl H55 ?_
                clear H55; intro a56 H56
                refine qplain (y_pick_t rfl rfl rfl) rfl rfl rfl H56 ?_
                clear H56; intro a57 H57
                refine qfin H57 ?_
                clear H57; intro wx58 H58
                refine then_n ?_
                refine cnd_t H58 rfl ?_
                refine wp_seq ?_
                have isYes := True.intro
                refine reg ?_
                refine plain (y_loadAB rfl z_agg38 z_size38 rfl (by repeat (first | exact Mh | apply Mt)) (q_ld_c8b32b32c4_0_76 (by assumption) (by assumption)) (q_len_c8b32b32c4 (by assumption) (by assumption))) rfl rfl rfl H58 ?_
                clear H58; intro a60 H60
                refine st_storeN rfl z_size38 rfl rfl (agg_cells _) (by repeat (first | exact Uh | apply Ut)) (q_one_c8b32b32c4 rfl rfl rfl rfl rfl rfl rfl rfl rfl rfl rfl rfl) (q_len_c8b32b32c4 (by assumption) (by assumption)) (q_len_c8b32b32c4 (by assumption) (by assumption)) (q_spl_c8b32b32c4_0_c8b32b32c4 (by assumption) (by assumption) (by assumption) (by assumption)) (by decide) rfl rfl H60 ?_
                clear H60; intro wx61 H61
                refine fin ?_
                refine then_n ?_
                refine reg ?_
                refine plain (y_assign rfl rfl) rfl rfl rfl H61 ?_
                clear H61; intro a62 H62
                refine fin ?_
                refine inb_n ?_
                refine then_n ?_
                refine reg ?_
                refine plain (y_move rfl rfl) rfl rfl rfl H62 ?_
                clear H62; intro a63 H63
                refine plain (y_add rfl rfl rfl (by first | exact w64 (by omega) (by omega) | rfl)) rfl rfl rfl H63 ?_
                clear H63; intro a64 H64
                refine plain (y_assign rfl rfl) rfl rfl rfl H64 ?_
                clear H64; intro a65 H65
                refine fin ?_
                refine then_n ?_
                first | (have hz := isYes; have hb := Pool.best_yes ⟨by assumption, by assumption⟩ (by first | exact .inl (by assumption) | exact .inr (by assumption)); refine ⟨k + 1, by omega, by omega, (H65.drop (List.Sublist.cons _ (List.Sublist.refl _))).weak ⟨rfl, rfl, rfl, rfl, rfl, rfl, fv rfl (by rw [hb.2]), fi rfl (by omega), trivial⟩ (ib (by rw [hb.1]; rfl))⟩) | (have hb := Pool.best_no (L := L) (nx := nx) (now := now) (k := k) (by rintro ⟨⟨a, b⟩, c⟩; first | contradiction | (rcases c with c | c <;> first | contradiction | omega | exact absurd (c.symm.trans (show Pool.found L nx now k = true from by assumption)) (by decide))); refine ⟨k + 1, by omega, by omega, (H65.drop (List.Sublist.cons _ (List.Sublist.refl _))).weak ⟨rfl, rfl, rfl, rfl, rfl, rfl, fv rfl (by rw [hb.2]), fi rfl (by omega), trivial⟩ (ib (by rw [hb.1]))⟩)
            · first
              | fail
              | skip
                clear H50; intro H66
                try simp only [decide_eq_true_eq, decide_eq_false_iff_not, Bool.not_eq_true', Bool.not_eq_false', Bool.and_eq_true, Bool.not_eq_true, Bool.not_eq_false] at hg51
                refine qplain (y_loadAB rfl z_agg38 z_size38 rfl (by repeat (first | exact Mh | apply Mt)) (q_ld_c8b32b32c4_0_76 (by assumption) (by assumption)) (q_len_c8b32b32c4 (by assumption) (by assumption))) rfl rfl rfl H66 ?_
                clear H66; intro a67 H67
                refine qplain (y_loadAB rfl z_agg38 z_size38 rfl (by repeat (first | exact Mh | apply Mt)) (q_ld_c8b32b32c4_0_76 (by assumption) (by assumption)) (q_len_c8b32b32c4 (by assumption) (by assumption))) rfl rfl rfl H67 ?_
                clear H67; intro a68 H68
                refine qcallg rfl z_call21 rfl rfl rfl rfl H68 (fun w hs => (xless (L.getD k Pool.Wait.zero) (Pool.bestOf L nx now k) hwk hwb _)) ?_
                clear H68; intro a69 H69
                refine qplain (y_pick_f rfl rfl rfl) rfl rfl rfl H69 ?_
                clear H69; intro a70 H70
                refine qplain (y_pick_t rfl rfl rfl) rfl rfl rfl H70 ?_
                clear H70; intro a71 H71
                refine qfin H71 ?_
                clear H71; intro wx72 H72
                refine then_n ?_
                refine cnd H72 rfl (fun hc73 => ?_) (fun hc73 => ?_) -- cond 3
                · skip
                  try simp only [decide_eq_true_eq, decide_eq_false_iff_not, Bool.not_eq_true', Bool.not_eq_false', Bool.and_eq_true, Bool.not_eq_true, Bool.not_eq_false] at hc73
                  refine wp_seq ?_
                  have isYes := True.intro
                  refine reg ?_
                  refine plain (y_loadAB rfl z_agg38 z_size38 rfl (by repeat (first | exact Mh | apply Mt)) (q_ld_c8b32b32c4_0_76 (by assumption) (by assumption)) (q_len_c8b32b32c4 (by assumption) (by assumption))) rfl rfl rfl H72 ?_
                  clear H72; intro a74 H74
                  refine st_storeN rfl z_size38 rfl rfl (agg_cells _) (by repeat (first | exact Uh | apply Ut)) (q_one_c8b32b32c4 rfl rfl rfl rfl rfl rfl rfl rfl rfl rfl rfl rfl) (q_len_c8b32b32c4 (by assumption) (by assumption)) (q_len_c8b32b32c4 (by assumption) (by assumption)) (q_spl_c8b32b32c4_0_c8b32b32c4 (by assumption) (by assumption) (by assumption) (by assumption)) (by decide) rfl rfl H74 ?_
                  clear H74; intro wx75 H75
                  refine fin ?_
                  refine then_n ?_
                  refine reg ?_
                  refine plain (y_assign rfl rfl) rfl rfl rfl H75 ?_
                  clear H75; intro a76 H76
                  refine fin ?_
                  refine inb_n ?_
                  refine then_n ?_
                  refine reg ?_
                  refine plain (y_move rfl rfl) rfl rfl rfl H76 ?_
                  clear H76; intro a77 H77
                  refine plain (y_add rfl rfl rfl (by first | exact w64 (by omega) (by omega) | rfl)) rfl rfl rfl H77 ?_
                  clear H77; intro a78 H78
                  refine plain (y_assign rfl rfl) rfl rfl rfl H78 ?_
                  clear H78; intro a79 H79
                  refine fin ?_
                  refine then_n ?_
                  first | (have hz := isYes; have hb := Pool.best_yes ⟨by assumption, by assumption⟩ (by first | exact .inl (by assumption) | exact .inr (by assumption)); refine ⟨k + 1, by omega, by omega, (H79.drop (List.Sublist.cons _ (List.Sublist.refl _))).weak ⟨rfl, rfl, rfl, rfl, rfl, rfl, fv rfl (by rw [hb.2]), fi rfl (by omega), trivial⟩ (ib (by rw [hb.1]; rfl))⟩) | (have hb := Pool.best_no (L := L) (nx := nx) (now := now) (k := k) (by rintro ⟨⟨a, b⟩, c⟩; first | contradiction | (rcases c with c | c <;> first | contradiction | omega | exact absurd (c.symm.trans (show Pool.found L nx now k = true from by assumption)) (by decide))); refine ⟨k + 1, by omega, by omega, (H79.drop (List.Sublist.cons _ (List.Sublist.refl _))).weak ⟨rfl, rfl, rfl, rfl, rfl, rfl, fv rfl (by rw [hb.2]), fi rfl (by omega), trivial⟩ (ib (by rw [hb.1]))⟩)
                · skip
                  try simp only [decide_eq_true_eq, decide_eq_false_iff_not, Bool.not_eq_true', Bool.not_eq_false', Bool.and_eq_true, Bool.not_eq_true, Bool.not_eq_false] at hc73
                  refine wp_skip ?_
                  refine inb_n ?_
                  refine then_n ?_
                  refine reg ?_
                  refine plain (y_move rfl rfl) rfl rfl rfl H72 ?_
                  clear H72; intro a80 H80
                  refine plain (y_add rfl rfl rfl (by first | exact w64 (by omega) (by omega) | rfl)) rfl rfl rfl H80 ?_
                  clear H80; intro a81 H81
                  refine plain (y_assign rfl rfl) rfl rfl rfl H81 ?_
                  clear H81; intro a82 H82
                  refine fin ?_
                  refine then_n ?_
                  first | (have hz := isYes; have hb := Pool.best_yes ⟨by assumption, by assumption⟩ (by first | exact .inl (by assumption) | exact .inr (by assumption)); refine ⟨k + 1, by omega, by omega, (H82.drop (List.Sublist.cons _ (List.Sublist.refl _))).weak ⟨rfl, rfl, rfl, rfl, rfl, rfl, fv rfl (by rw [hb.2]), fi rfl (by omega), trivial⟩ (ib (by rw [hb.1]; rfl))⟩) | (have hb := Pool.best_no (L := L) (nx := nx) (now := now) (k := k) (by rintro ⟨⟨a, b⟩, c⟩; first | contradiction | (rcases c with c | c <;> first | contradiction | omega | exact absurd (c.symm.trans (show Pool.found L nx now k = true from by assumption)) (by decide))); refine ⟨k + 1, by omega, by omega, (H82.drop (List.Sublist.cons _ (List.Sublist.refl _))).weak ⟨rfl, rfl, rfl, rfl, rfl, rfl, fv rfl (by rw [hb.2]), fi rfl (by omega), trivial⟩ (ib (by rw [hb.1]))⟩)
        · first
          | fail
          | skip
            clear H45; intro H83
            try simp only [decide_eq_true_eq, decide_eq_false_iff_not, Bool.not_eq_true', Bool.not_eq_false', Bool.and_eq_true, Bool.not_eq_true, Bool.not_eq_false] at hg46
            refine qskip rfl rfl rfl H83 ?_
            clear H83; intro a84 H84
            refine qskip rfl rfl rfl H84 ?_
            clear H84; intro a85 H85
            refine qskip rfl rfl rfl H85 ?_
            clear H85; intro a86 H86
            refine qskip rfl rfl rfl H86 ?_
            clear H86; intro a87 H87
            refine qskip rfl rfl rfl H87 ?_
            clear H87; intro a88 H88
            refine qskip rfl rfl rfl H88 ?_
            clear H88; intro a89 H89
            refine qskip rfl rfl rfl H89 ?_
            clear H89; intro a90 H90
            refine qplain (y_pick_f rfl rfl rfl) rfl rfl rfl H90 ?_
            clear H90; intro a91 H91
            refine qfin H91 ?_
            clear H91; intro wx92 H92
            refine then_n ?_
            refine cnd_f H92 rfl ?_
            refine wp_skip ?_
            refine inb_n ?_
            refine then_n ?_
            refine reg ?_
            refine plain (y_move rfl rfl) rfl rfl rfl H92 ?_
            clear H92; intro a94 H94
            refine plain (y_add rfl rfl rfl (by first | exact w64 (by omega) (by omega) | rfl)) rfl rfl rfl H94 ?_
            clear H94; intro a95 H95
            refine plain (y_assign rfl rfl) rfl rfl rfl H95 ?_
            clear H95; intro a96 H96
            refine fin ?_
            refine then_n ?_
            first | (have hz := isYes; have hb := Pool.best_yes ⟨by assumption, by assumption⟩ (by first | exact .inl (by assumption) | exact .inr (by assumption)); refine ⟨k + 1, by omega, by omega, (H96.drop (List.Sublist.cons _ (List.Sublist.refl _))).weak ⟨rfl, rfl, rfl, rfl, rfl, rfl, fv rfl (by rw [hb.2]), fi rfl (by omega), trivial⟩ (ib (by rw [hb.1]; rfl))⟩) | (have hb := Pool.best_no (L := L) (nx := nx) (now := now) (k := k) (by rintro ⟨⟨a, b⟩, c⟩; first | contradiction | (rcases c with c | c <;> first | contradiction | omega | exact absurd (c.symm.trans (show Pool.found L nx now k = true from by assumption)) (by decide))); refine ⟨k + 1, by omega, by omega, (H96.drop (List.Sublist.cons _ (List.Sublist.refl _))).weak ⟨rfl, rfl, rfl, rfl, rfl, rfl, fv rfl (by rw [hb.2]), fi rfl (by omega), trivial⟩ (ib (by rw [hb.1]))⟩)
    · first
      | fail
      | skip
        clear H31; intro H97
        try simp only [decide_eq_true_eq, decide_eq_false_iff_not, Bool.not_eq_true', Bool.not_eq_false', Bool.and_eq_true, Bool.not_eq_true, Bool.not_eq_false] at hg32
        refine qskip rfl rfl rfl H97 ?_
        clear H97; intro a98 H98
        refine qskip rfl rfl rfl H98 ?_
        clear H98; intro a99 H99
        refine qskip rfl rfl rfl H99 ?_
        clear H99; intro a100 H100
        refine qskip rfl rfl rfl H100 ?_
        clear H100; intro a101 H101
        refine qskip rfl rfl rfl H101 ?_
        clear H101; intro a102 H102
        refine qskip rfl rfl rfl H102 ?_
        clear H102; intro a103 H103
        refine qskip rfl rfl rfl H103 ?_
        clear H103; intro a104 H104
        refine qskip rfl rfl rfl H104 ?_
        clear H104; intro a105 H105
        refine qskip rfl rfl rfl H105 ?_
        clear H105; intro a106 H106
        refine qskip rfl rfl rfl H106 ?_
        clear H106; intro a107 H107
        refine qplain (y_pick_f rfl rfl rfl) rfl rfl rfl H107 ?_
        clear H107; intro a108 H108
        refine qplain (y_move rfl rfl) rfl rfl rfl H108 ?_
        clear H108; intro a109 H109
        refine qskip rfl rfl rfl H109 ?_
        clear H109; intro a110 H110
        refine qskip rfl rfl rfl H110 ?_
        clear H110; intro a111 H111
        refine qskip rfl rfl rfl H111 ?_
        clear H111; intro a112 H112
        refine qskip rfl rfl rfl H112 ?_
        clear H112; intro a113 H113
        refine qskip rfl rfl rfl H113 ?_
        clear H113; intro a114 H114
        refine qskip rfl rfl rfl H114 ?_
        clear H114; intro a115 H115
        refine qskip rfl rfl rfl H115 ?_
        clear H115; intro a116 H116
        refine qplain (y_pick_f rfl rfl rfl) rfl rfl rfl H116 ?_
        clear H116; intro a117 H117
        refine qfin H117 ?_
        clear H117; intro wx118 H118
        refine then_n ?_
        refine cnd_f H118 rfl ?_
        refine wp_skip ?_
        refine inb_n ?_
        refine then_n ?_
        refine reg ?_
        refine plain (y_move rfl rfl) rfl rfl rfl H118 ?_
        clear H118; intro a120 H120
        refine plain (y_add rfl rfl rfl (by first | exact w64 (by omega) (by omega) | rfl)) rfl rfl rfl H120 ?_
        clear H120; intro a121 H121
        refine plain (y_assign rfl rfl) rfl rfl rfl H121 ?_
        clear H121; intro a122 H122
        refine fin ?_
        refine then_n ?_
        first | (have hz := isYes; have hb := Pool.best_yes ⟨by assumption, by assumption⟩ (by first | exact .inl (by assumption) | exact .inr (by assumption)); refine ⟨k + 1, by omega, by omega, (H122.drop (List.Sublist.cons _ (List.Sublist.refl _))).weak ⟨rfl, rfl, rfl, rfl, rfl, rfl, fv rfl (by rw [hb.2]), fi rfl (by omega), trivial⟩ (ib (by rw [hb.1]; rfl))⟩) | (have hb := Pool.best_no (L := L) (nx := nx) (now := now) (k := k) (by rintro ⟨⟨a, b⟩, c⟩; first | contradiction | (rcases c with c | c <;> first | contradiction | omega | exact absurd (c.symm.trans (show Pool.found L nx now k = true from by assumption)) (by decide))); refine ⟨k + 1, by omega, by omega, (H122.drop (List.Sublist.cons _ (List.Sublist.refl _))).weak ⟨rfl, rfl, rfl, rfl, rfl, rfl, fv rfl (by rw [hb.2]), fi rfl (by omega), trivial⟩ (ib (by rw [hb.1]))⟩)
  · skip
    try simp only [decide_eq_true_eq, decide_eq_false_iff_not, Bool.not_eq_true', Bool.not_eq_false', Bool.and_eq_true, Bool.not_eq_true, Bool.not_eq_false] at hc16
    refine wp_exit ?_
    refine then_x ?_
    refine then_x ?_
    refine inb_hit ?_
    refine then_n ?_
    refine wp_seq ?_
    refine wp_seq ?_
    obtain rfl : k = L.length := by omega
    refine reg ?_
    refine plain (y_move rfl rfl) rfl rfl rfl H15 ?_
    clear H15; intro a123 H123
    refine plain ((by first | exact y_not_d rfl rfl | exact y_not rfl rfl)) rfl rfl rfl H123 ?_
    clear H123; intro a124 H124
    refine fin ?_
    refine then_n ?_
    refine cnd H124 rfl (fun hc125 => ?_) (fun hc125 => ?_) -- cond 6
    · skip
      try simp only [decide_eq_true_eq, decide_eq_false_iff_not, Bool.not_eq_true', Bool.not_eq_false', Bool.and_eq_true, Bool.not_eq_true, Bool.not_eq_false] at hc125
      have hnone := Pool.found_no (show Pool.found L nx now L.length = false by simpa using hc125)
      refine wp_seq ?_
      refine reg ?_
      refine plain (y_build rfl z_zeroN38 z_places38 rfl lay_n) rfl rfl rfl H124 ?_
      clear H124; intro a126 H126
      refine st_storeN rfl z_size38 rfl rfl (agg_cells _) (by repeat (first | exact Uh | apply Ut)) (q_one_c8b32b32c4 rfl rfl rfl rfl rfl rfl rfl rfl rfl rfl rfl rfl) (q_len_c8b32b32c4 (by assumption) (by assumption)) (q_len_c8b32b32c4 (by assumption) (by assumption)) (q_spl_c8b32b32c4_0_c8b32b32c4 (by assumption) (by assumption) (by assumption) (by assumption)) (by decide) rfl rfl H126 ?_
      clear H126; intro wx127 H127
      refine plain (y_assign rfl rfl) rfl rfl rfl H127 ?_
      clear H127; intro a128 H128
      refine fin ?_
      refine then_n ?_
      refine wp_ret ?_
      refine then_r ?_
      -- return 1
      refine retct rfl H128 rfl z_agg38 z_size38 (by repeat (first | exact Mh | apply Mt)) (q_len_c8b32b32c4 (by assumption) (by assumption)) rfl ?_
      first | (have hz := hnone; rw [Pool.next_no (p := ⟨size, L⟩) hnone]; exact ⟨_, _, rfl, ⟨rfl, _, rfl⟩, H128.sep.sub (by repeat (first | exact S1 | exact S0 | apply S2 | apply S3))⟩) | (rw [Pool.next_yes (p := ⟨size, L⟩) hpk]; exact ⟨_, _, rfl, ⟨rfl, _, rfl⟩, H128.sep.sub (by repeat (first | exact S1 | exact S0 | apply S2 | apply S3))⟩)
    · skip
      try simp only [decide_eq_true_eq, decide_eq_false_iff_not, Bool.not_eq_true', Bool.not_eq_false', Bool.and_eq_true, Bool.not_eq_true, Bool.not_eq_false] at hc125
      obtain ⟨j, hpk, hpj, hjl⟩ := Pool.found_yes (show Pool.found L nx now L.length = true by simpa using hc125)
      rw [hpj] at H124
      have hwj := hL.at_ hjl
      have hwh := hwj.tx.hand
      have hwt := hwj.tx.tag
      have hrj : Pool.right (L.getD j Pool.Wait.zero) := hg.right _ (Pool.mem_getD (L := L) hjl)
      have hrn := (Txs.check_is.1 hrj.1).2.1.1.1
      unfold Txs.within at hrn
      refine wp_skip ?_
      refine then_n ?_
      refine wp_seq ?_
      refine reg ?_
      refine plain (y_assign rfl rfl) rfl rfl rfl H124 ?_
      clear H124; intro a129 H129
      refine fin ?_
      refine then_n ?_
      refine wp_seq ?_
      refine wp_seq ?_
      refine reg ?_
      refine plain (y_assign rfl rfl) rfl rfl rfl H129 ?_
      clear H129; intro a130 H130
      refine fin ?_
      refine then_n ?_
      refine wp_block ?_
      replace H130 := H130.nilRow 38 76
      refine loop (ι := Nat × Value) (fun y => [(0, .pointer (some ⟨xp, 0, none⟩)), (1, .int .i64 now), (2, .slice (some ⟨mb, 0, none⟩) 64 64), (6, .pointer (some ⟨b1, 0, none⟩)), (7, .bool false), (8, .pointer (some ⟨b4, 0, none⟩)), (12, y.2), (13, .int .i64 (y.1 : Int))]) (fun y => [It.row 38 76 y.2 (Pool.rw' (L.getD j Pool.Wait.zero) (L.take y.1)).length (Pool.wc (Pool.rw' (L.getD j Pool.Wait.zero) (L.take y.1))), It.blk b4 38 (Pool.Wait.cells (L.getD j Pool.Wait.zero)), It.blk b1 38 (Pool.Wait.cells Pool.Wait.zero), It.row 38 76 (.slice A L.length cc) L.length (Pool.wc L), It.blk xp 32 [i64 size, (.slice A L.length cc)], It.blk mb 3 (nx.map i64)]) (fun y => y.1 ≤ L.length) (fun y => L.length - y.1) ((0, (.slice none 0 0))) (Nat.zero_le _) (H130.weak ⟨rfl, rfl, rfl, rfl, rfl, rfl, rfl, rfl, trivial⟩ rfl) ?_
      clear H130; intro y a131 wx131 hok131 H131
      obtain ⟨k, v⟩ := y
      dsimp only at hok131 H131
      have hok := hok131
      obtain ⟨A1, c1, rfl, hR1, hm1⟩ := row_shape (v := v) H131.sep (by repeat (first | exact Mh | apply Mt))
      have hrl := Pool.rw_len (L.getD j Pool.Wait.zero) (L.take k)
      rw [List.length_take] at hrl
      refine wp_seq ?_
      refine wp_seq ?_
      refine reg ?_
      refine plain (y_move rfl rfl) rfl rfl rfl H131 ?_
      clear H131; intro a132 H132
      refine plain (y_move rfl rfl) rfl rfl rfl H132 ?_
      clear H132; intro a133 H133
      refine plain (y_nilCheck rfl rfl) rfl rfl rfl H133 ?_
      clear H133; intro a134 H134
      refine plain (y_fieldB rfl z_field32_1 rfl (by first | (simp only [Nat.zero_add, Nat.add_zero, Nat.reduceAdd]; rfl) | rfl)) rfl rfl rfl H134 ?_
      clear H134; intro a135 H135
      refine plain (y_loadB rfl z_agg30 rfl (by repeat (first | exact Mh | apply Mt)) q_ix_c2_1) rfl rfl rfl H135 ?_
      clear H135; intro a136 H136
      refine plain (y_len rfl Try.underlying30 rfl) rfl rfl rfl H136 ?_
      clear H136; intro a137 H137
      refine plain (y_lss rfl rfl rfl) rfl rfl rfl H137 ?_
      clear H137; intro a138 H138
      refine fin ?_
      refine then_n ?_
      refine cnd H138 rfl (fun hc139 => ?_) (fun hc139 => ?_) -- cond 7
      · skip
        try simp only [decide_eq_true_eq, decide_eq_false_iff_not, Bool.not_eq_true', Bool.not_eq_false', Bool.and_eq_true, Bool.not_eq_true, Bool.not_eq_false] at hc139
        refine wp_skip ?_
        refine then_n ?_
        refine wp_seq ?_
        refine wp_block ?_
        refine wp_seq ?_
        have hkl : k < L.length := by omega
        have hwk := hL.at_ hkl
        have whd := hwk.tx.hand
        have wtg := hwk.tx.tag
        refine reg ?_
        refine plain (y_move rfl rfl) rfl rfl rfl H138 ?_
        clear H138; intro a140 H140
        refine plain (y_nilCheck rfl rfl) rfl rfl rfl H140 ?_
        clear H140; intro a141 H141
        refine plain (y_fieldB rfl z_field32_1 rfl (by first | (simp only [Nat.zero_add, Nat.add_zero, Nat.reduceAdd]; rfl) | rfl)) rfl rfl rfl H141 ?_
        clear H141; intro a142 H142
        refine plain (y_loadB rfl z_agg30 rfl (by repeat (first | exact Mh | apply Mt)) q_ix_c2_1) rfl rfl rfl H142 ?_
        clear H142; intro a143 H143
        refine plain (y_move rfl rfl) rfl rfl rfl H143 ?_
        clear H143; intro a144 H144
        refine plain (y_ixR rfl Try.underlying30 z_size38 rfl rfl (by omega) (by omega) (rd_row (by repeat (first | exact Mh | apply Mt))) (by rw [Pool.wc_len hL]; omega)) rfl rfl rfl H144 ?_
        clear H144; intro a145 H145
        refine plain (y_loadAS rfl z_agg38 z_size38 rfl (rd_row (by repeat (first | exact Mh | apply Mt))) (show _ = Pool.Wait.cells (L.getD k Pool.Wait.zero) from Pool.wc_take hL k hkl) hwk.len (by decide)) rfl rfl rfl H145 ?_
        clear H145; intro a146 H146
        refine st_alloc rfl z_zeroN38 rfl rfl rfl H146 ?_
        clear H146; intro b147 a147 wx147 H147
        refine st_storeN rfl z_size38 rfl rfl (agg_cells _) (by repeat (first | exact Uh | apply Ut)) (q_one_c8b32b32c4 rfl rfl rfl rfl rfl rfl rfl rfl rfl rfl rfl rfl) (q_len_c8b32b32c4 (by assumption) (by assumption)) (q_len_c8b32b32c4 (by assumption) (by assumption)) (q_spl_c8b32b32c4_0_c8b32b32c4 (by assumption) (by assumption) (by assumption) (by assumption)) (by decide) rfl rfl H147 ?_
        clear H147; intro wx148 H148
        refine fin ?_
        refine then_n ?_
        refine wp_seq ?_
        refine wp_seq ?_
        refine reg ?_
        refine plain (y_fieldB rfl z_field38_0 rfl (by first | (simp only [Nat.zero_add, Nat.add_zero, Nat.reduceAdd]; rfl) | rfl)) rfl rfl rfl H148 ?_
        clear H148; intro a149 H149
        refine plain (y_fieldB rfl z_field36_0 rfl (by first | (simp only [Nat.zero_add, Nat.add_zero, Nat.reduceAdd]; rfl) | rfl)) rfl rfl rfl H149 ?_
        clear H149; intro a150 H150
        refine plain (y_loadB rfl z_agg3 rfl (by repeat (first | exact Mh | apply Mt)) q_ix_c8b32b32c4_0) rfl rfl rfl H150 ?_
        clear H150; intro a151 H151
        refine plain (y_fieldB rfl z_field38_0 rfl (by first | (simp only [Nat.zero_add, Nat.add_zero, Nat.reduceAdd]; rfl) | rfl)) rfl rfl rfl H151 ?_
        clear H151; intro a152 H152
        refine plain (y_fieldB rfl z_field36_0 rfl (by first | (simp only [Nat.zero_add, Nat.add_zero, Nat.reduceAdd]; rfl) | rfl)) rfl rfl rfl H152 ?_
        clear H152; intro a153 H153
        refine plain (y_loadB rfl z_agg3 rfl (by repeat (first | exact Mh | apply Mt)) q_ix_c8b32b32c4_0) rfl rfl rfl H153 ?_
        clear H153; intro a154 H154
        refine plain (y_eql rfl rfl rfl) rfl rfl rfl H154 ?_
        clear H154; intro a155 H155
        refine plain (y_move rfl rfl) rfl rfl rfl H155 ?_
        clear H155; intro a156 H156
        refine Sx.part (d := 84) H156 rfl (fun hg157 => ?_) (fun hg157 => ?_)
        · first
          | fail
          | skip
            clear H156; intro H158
            try simp only [decide_eq_true_eq, decide_eq_false_iff_not, Bool.not_eq_true', Bool.not_eq_false', Bool.and_eq_true, Bool.not_eq_true, Bool.not_eq_false] at hg157
            refine plain (y_fieldB rfl z_field38_0 rfl (by first | (simp only [Nat.zero_add, Nat.add_zero, Nat.reduceAdd]; rfl) | rfl)) rfl rfl rfl H158 ?_
            clear H158; intro a159 H159
            refine plain (y_fieldB rfl z_field36_1 rfl (by first | (simp only [Nat.zero_add, Nat.add_zero, Nat.reduceAdd]; rfl) | rfl)) rfl rfl rfl H159 ?_
            clear H159; intro a160 H160
            refine plain (y_loadB rfl z_agg3 rfl (by repeat (first | exact Mh | apply Mt)) q_ix_c8b32b32c4_1) rfl rfl rfl H160 ?_
            clear H160; intro a161 H161
            refine plain (y_fieldB rfl z_field38_0 rfl (by first | (simp only [Nat.zero_add, Nat.add_zero, Nat.reduceAdd]; rfl) | rfl)) rfl rfl rfl H161 ?_
            clear H161; intro a162 H162
            refine plain (y_fieldB rfl z_field36_1 rfl (by first | (simp only [Nat.zero_add, Nat.add_zero, Nat.reduceAdd]; rfl) | rfl)) rfl rfl rfl H162 ?_
            clear H162; intro a163 H163
            refine plain (y_loadB rfl z_agg3 rfl (by repeat (first | exact Mh | apply Mt)) q_ix_c8b32b32c4_1) rfl rfl rfl H163 ?_
            clear H163; intro a164 H164
            refine plain (y_add rfl rfl rfl (by first | exact w64 (by omega) (by omega) | rfl)) rfl rfl rfl H164 ?_
            clear H164; intro a165 H165
            refine plain (y_eql rfl rfl rfl) rfl rfl rfl H165 ?_
            clear H165; intro a166 H166
            refine plain (y_pick_t rfl rfl rfl) rfl rfl rfl H166 ?_
            clear H166; intro a167 H167
            refine plain (y_move rfl rfl) rfl rfl rfl H167 ?_
            clear H167; intro a168 H168
            refine Sx.part (d := 94) H168 rfl (fun hg169 => ?_) (fun hg169 => ?_)
            · first
              | fail
              | skip
                clear H168; intro H170
                try simp only [decide_eq_true_eq, decide_eq_false_iff_not, Bool.not_eq_true', Bool.not_eq_false', Bool.and_eq_true, Bool.not_eq_true, Bool.not_eq_false] at hg169
                refine plain (y_loadAB rfl z_agg38 z_size38 rfl (by repeat (first | exact Mh | apply Mt)) (q_ld_c8b32b32c4_0_76 (by assumption) (by assumption)) (q_len_c8b32b32c4 (by assumption) (by assumption))) rfl rfl rfl H170 ?_
                clear H170; intro a171 H171
                refine plain (y_loadAB rfl z_agg38 z_size38 rfl (by repeat (first | exact Mh | apply Mt)) (q_ld_c8b32b32c4_0_76 (by assumption) (by assumption)) (q_len_c8b32b32c4 (by assumption) (by assumption))) rfl rfl rfl H171 ?_
                clear H171; intro a172 H172
                refine st_callg rfl z_call21 rfl rfl rfl rfl H172 (xless (L.getD k Pool.Wait.zero) (L.getD j Pool.Wait.zero) hwk hwj _) ?_
                clear H172; intro a173 wx173 H173
                refine plain (y_pick_t rfl rfl rfl) rfl rfl rfl H173 ?_
                clear H173; intro a174 H174
                refine fin ?_
                refine then_n ?_
                refine wp_cut (fun aC wC => St Try.f17.ntmps (fps [It.row 38 76 (.slice A L.length cc) L.length (Pool.wc L), It.blk xp 32 [i64 size, (.slice A L.length cc)], It.blk mb 3 (nx.map i64)]) w ([(0, .pointer (some ⟨xp, 0, none⟩)), (1, .int .i64 now), (2, .slice (some ⟨mb, 0, none⟩) 64 64), (6, .pointer (some ⟨b1, 0, none⟩)), (7, .bool false), (8, .pointer (some ⟨b4, 0, none⟩)), (12, .slice A1 (Pool.rw' (L.getD j Pool.Wait.zero) (L.take k)).length c1), (13, .int .i64 (k : Int)), (14, .pointer (some ⟨b147, 0, none⟩))]) ([It.blk b147 38 (Pool.Wait.cells (Pool.raise (L.getD j Pool.Wait.zero) (L.getD k Pool.Wait.zero))), It.row 38 76 (.slice A1 (Pool.rw' (L.getD j Pool.Wait.zero) (L.take k)).length c1) (Pool.rw' (L.getD j Pool.Wait.zero) (L.take k)).length (Pool.wc (Pool.rw' (L.getD j Pool.Wait.zero) (L.take k))), It.blk b4 38 (Pool.Wait.cells (L.getD j Pool.Wait.zero)), It.blk b1 38 (Pool.Wait.cells Pool.Wait.zero), It.row 38 76 (.slice A L.length cc) L.length (Pool.wc L), It.blk xp 32 [i64 size, (.slice A L.length cc)], It.blk mb 3 (nx.map i64)]) aC wC) ?_ ?_
                · skip
                  refine cnd H174 rfl (fun hc175 => ?_) (fun hc175 => ?_) -- cond 8
                  · skip
                    try simp only [decide_eq_true_eq, decide_eq_false_iff_not, Bool.not_eq_true', Bool.not_eq_false', Bool.and_eq_true, Bool.not_eq_true, Bool.not_eq_false] at hc175
                    refine wp_seq ?_
                    have isFol := True.intro
                    refine reg ?_
                    refine plain (y_fieldB rfl z_field38_3 rfl (by first | (simp only [Nat.zero_add, Nat.add_zero, Nat.reduceAdd]; rfl) | rfl)) rfl rfl rfl H174 ?_
                    clear H174; intro a176 H176
                    refine plain (y_loadB rfl z_agg3 rfl (by repeat (first | exact Mh | apply Mt)) (q_ix_c8b32b32c4_74 (by assumption) (by assumption))) rfl rfl rfl H176 ?_
                    clear H176; intro a177 H177
                    refine plain (y_fieldB rfl z_field38_3 rfl (by first | (simp only [Nat.zero_add, Nat.add_zero, Nat.reduceAdd]; rfl) | rfl)) rfl rfl rfl H177 ?_
                    clear H177; intro a178 H178
                    refine st_store1N rfl z_size3 rfl rfl rfl (by repeat (first | exact Uh | apply Ut)) (q_len_c8b32b32c4 (by assumption) (by assumption)) (q_set_c8b32b32c4_74 (by assumption) (by assumption)) (by decide) rfl rfl H178 ?_
                    clear H178; intro wx179 H179
                    refine fin ?_
                    refine then_n ?_
                    refine reg ?_
                    refine plain (y_fieldB rfl z_field38_4 rfl (by first | (simp only [Nat.zero_add, Nat.add_zero, Nat.reduceAdd]; rfl) | rfl)) rfl rfl rfl H179 ?_
                    clear H179; intro a180 H180
                    refine plain (y_loadB rfl z_agg3 rfl (by repeat (first | exact Mh | apply Mt)) (q_ix_c8b32b32c4_75 (by assumption) (by assumption))) rfl rfl rfl H180 ?_
                    clear H180; intro a181 H181
                    refine plain (y_fieldB rfl z_field38_4 rfl (by first | (simp only [Nat.zero_add, Nat.add_zero, Nat.reduceAdd]; rfl) | rfl)) rfl rfl rfl H181 ?_
                    clear H181; intro a182 H182
                    refine st_store1N rfl z_size3 rfl rfl rfl (by repeat (first | exact Uh | apply Ut)) (q_len_c8b32b32c4 (by assumption) (by assumption)) (q_set_c8b32b32c4_75 (by assumption) (by assumption)) (by decide) rfl rfl H182 ?_
                    clear H182; intro wx183 H183
                    refine fin ?_
                    refine cut_n ?_
                    first | (have hz := isFol; exact H183.weak ⟨rfl, rfl, rfl, rfl, rfl, rfl, rfl, rfl, rfl, trivial⟩ (ib (by rw [Pool.raise_yes (show Pool.follows _ _ from ⟨by assumption, by assumption, by assumption⟩)]; rfl))) | (exact H183.weak ⟨rfl, rfl, rfl, rfl, rfl, rfl, rfl, rfl, rfl, trivial⟩ (ib (by rw [Pool.raise_no (by rintro ⟨a, b, c⟩; first | contradiction | omega)]; rfl)))
                  · skip
                    try simp only [decide_eq_true_eq, decide_eq_false_iff_not, Bool.not_eq_true', Bool.not_eq_false', Bool.and_eq_true, Bool.not_eq_true, Bool.not_eq_false] at hc175
                    refine wp_skip ?_
                    refine cut_n ?_
                    first | (have hz := isFol; exact H174.weak ⟨rfl, rfl, rfl, rfl, rfl, rfl, rfl, rfl, rfl, trivial⟩ (ib (by rw [Pool.raise_yes (show Pool.follows _ _ from ⟨by assumption, by assumption, by assumption⟩)]; rfl))) | (exact H174.weak ⟨rfl, rfl, rfl, rfl, rfl, rfl, rfl, rfl, rfl, trivial⟩ (ib (by rw [Pool.raise_no (by rintro ⟨a, b, c⟩; first | contradiction | omega)]; rfl)))
                · clear H174; intro a184 wx184 hI184
                  have H184 := hI184
                  refine then_n ?_
                  refine wp_seq ?_
                  have hwr := Pool.raise_wf hwj hwk
                  have hr1 := hwr.tx.hand
                  have hr2 := hwr.tx.tag
                  have hrk := Pool.raise_keeps (L.getD j Pool.Wait.zero) (L.getD k Pool.Wait.zero)
                  refine reg ?_
                  refine plain (y_fieldB rfl z_field38_1 rfl (by first | (simp only [Nat.zero_add, Nat.add_zero, Nat.reduceAdd]; rfl) | rfl)) rfl rfl rfl H184 ?_
                  clear H184; intro a185 H185
                  refine plain (y_loadB rfl z_agg3 rfl (by repeat (first | exact Mh | apply Mt)) (q_ix_c8b32b32c4_72 (by assumption) (by assumption))) rfl rfl rfl H185 ?_
                  clear H185; intro a186 H186
                  refine plain (y_fieldB rfl z_field38_1 rfl (by first | (simp only [Nat.zero_add, Nat.add_zero, Nat.reduceAdd]; rfl) | rfl)) rfl rfl rfl H186 ?_
                  clear H186; intro a187 H187
                  refine plain (y_loadB rfl z_agg3 rfl (by repeat (first | exact Mh | apply Mt)) (q_ix_c8b32b32c4_72 (by assumption) (by assumption))) rfl rfl rfl H187 ?_
                  clear H187; intro a188 H188
                  refine plain (y_neq rfl rfl rfl) rfl rfl rfl H188 ?_
                  clear H188; intro a189 H189
                  refine fin ?_
                  refine then_n ?_
                  refine cnd H189 rfl (fun hc190 => ?_) (fun hc190 => ?_) -- cond 9
                  · skip
                    try simp only [decide_eq_true_eq, decide_eq_false_iff_not, Bool.not_eq_true', Bool.not_eq_false', Bool.and_eq_true, Bool.not_eq_true, Bool.not_eq_false] at hc190
                    rw [hrk.2.1] at hc190
                    have isYes := True.intro
                    refine reg ?_
                    refine plain (y_move rfl rfl) rfl rfl rfl H189 ?_
                    clear H189; intro a191 H191
                    refine plain (y_loadAB rfl z_agg38 z_size38 rfl (by repeat (first | exact Mh | apply Mt)) (q_ld_c8b32b32c4_0_76 (by assumption) (by assumption)) (q_len_c8b32b32c4 (by assumption) (by assumption))) rfl rfl rfl H191 ?_
                    clear H191; intro a192 H192
                    refine st_buildSlice rfl Try.underlying30 z_size38 z_zero38 rfl rfl rfl (lay_agg (agg_cells _) hwr.len rfl) rfl rfl rfl H192 ?_
                    clear H192; intro b193 a193 wx193 H193
                    refine st_append rfl z_slice30 z_notint30 rfl rfl (fun _ => (by repeat (first | exact Uh | apply Ut))) (fun w hs => Src.slice ((rd_blkA (by repeat (first | exact Mh | apply Mt))) w hs) hwr.len (Pool.wait_cell _)) (by unfold maxLen at *; omega) (by omega) rfl rfl rfl H193 ?_
                    clear H193; intro v194 a194 wx194 hnil194 H194
                    obtain ⟨ArY, crY, hvrY, hRrY, hmrY⟩ := row_shape (v := v194) H194.sep (by repeat (first | exact Mh | apply Mt))
                    subst hvrY
                    refine plain (y_assign rfl rfl) rfl rfl rfl H194 ?_
                    clear H194; intro a195 H195
                    refine fin ?_
                    refine inb_n ?_
                    refine then_n ?_
                    refine reg ?_
                    refine plain (y_move rfl rfl) rfl rfl rfl H195 ?_
                    clear H195; intro a196 H196
                    refine plain (y_add rfl rfl rfl (by first | exact w64 (by omega) (by omega) | rfl)) rfl rfl rfl H196 ?_
                    clear H196; intro a197 H197
                    refine plain (y_assign rfl rfl) rfl rfl rfl H197 ?_
                    clear H197; intro a198 H198
                    refine fin ?_
                    refine then_n ?_
                    first | (have hz := isYes; refine ⟨(k + 1, .slice ArY ((Pool.rw' (L.getD j Pool.Wait.zero) (L.take k)).length + 1) crY), by dsimp only; omega, by dsimp only; omega, (H198.drop (List.Sublist.cons _ (List.Sublist.cons _ (List.Sublist.refl _)))).weak ⟨rfl, rfl, rfl, rfl, rfl, rfl, rfl, fi rfl (by dsimp only; omega), trivial⟩ (by dsimp only; rw [Pool.rw_yes hkl (by assumption), Pool.wc_append, Pool.wc_one, List.length_append]; rfl)⟩) | (refine ⟨(k + 1, .slice A1 (Pool.rw' (L.getD j Pool.Wait.zero) (L.take k)).length c1), by dsimp only; omega, by dsimp only; omega, (H198.drop (List.Sublist.cons _ (List.Sublist.refl _))).weak ⟨rfl, rfl, rfl, rfl, rfl, rfl, rfl, fi rfl (by dsimp only; omega), trivial⟩ (by dsimp only; rw [Pool.rw_no hkl (by first | assumption | omega)])⟩)
                  · skip
                    try simp only [decide_eq_true_eq, decide_eq_false_iff_not, Bool.not_eq_true', Bool.not_eq_false', Bool.and_eq_true, Bool.not_eq_true, Bool.not_eq_false] at hc190
                    rw [hrk.2.1] at hc190
                    refine wp_skip ?_
                    refine inb_n ?_
                    refine then_n ?_
                    refine reg ?_
                    refine plain (y_move rfl rfl) rfl rfl rfl H189 ?_
                    clear H189; intro a199 H199
                    refine plain (y_add rfl rfl rfl (by first | exact w64 (by omega) (by omega) | rfl)) rfl rfl rfl H199 ?_
                    clear H199; intro a200 H200
                    refine plain (y_assign rfl rfl) rfl rfl rfl H200 ?_
                    clear H200; intro a201 H201
                    refine fin ?_
                    refine then_n ?_
                    first | (have hz := isYes; refine ⟨(k + 1, .slice ArY ((Pool.rw' (L.getD j Pool.Wait.zero) (L.take k)).length + 1) crY), by dsimp only; omega, by dsimp only; omega, (H201.drop (List.Sublist.cons _ (List.Sublist.cons _ (List.Sublist.refl _)))).weak ⟨rfl, rfl, rfl, rfl, rfl, rfl, rfl, fi rfl (by dsimp only; omega), trivial⟩ (by dsimp only; rw [Pool.rw_yes hkl (by assumption), Pool.wc_append, Pool.wc_one, List.length_append]; rfl)⟩) | (refine ⟨(k + 1, .slice A1 (Pool.rw' (L.getD j Pool.Wait.zero) (L.take k)).length c1), by dsimp only; omega, by dsimp only; omega, (H201.drop (List.Sublist.cons _ (List.Sublist.refl _))).weak ⟨rfl, rfl, rfl, rfl, rfl, rfl, rfl, fi rfl (by dsimp only; omega), trivial⟩ (by dsimp only; rw [Pool.rw_no hkl (by first | assumption | omega)])⟩)
            · first
              | fail
              | skip
                clear H168; intro H202
                try simp only [decide_eq_true_eq, decide_eq_false_iff_not, Bool.not_eq_true', Bool.not_eq_false', Bool.and_eq_true, Bool.not_eq_true, Bool.not_eq_false] at hg169
                refine skip rfl rfl rfl H202 ?_
                clear H202; intro a203 H203
                refine skip rfl rfl rfl H203 ?_
                clear H203; intro a204 H204
                refine skip rfl rfl rfl H204 ?_
                clear H204; intro a205 H205
                refine plain (y_pick_f rfl rfl rfl) rfl rfl rfl H205 ?_
                clear H205; intro a206 H206
                refine fin ?_
                refine then_n ?_
                refine wp_cut (fun aC wC => St Try.f17.ntmps (fps [It.row 38 76 (.slice A L.length cc) L.length (Pool.wc L), It.blk xp 32 [i64 size, (.slice A L.length cc)], It.blk mb 3 (nx.map i64)]) w ([(0, .pointer (some ⟨xp, 0, none⟩)), (1, .int .i64 now), (2, .slice (some ⟨mb, 0, none⟩) 64 64), (6, .pointer (some ⟨b1, 0, none⟩)), (7, .bool false), (8, .pointer (some ⟨b4, 0, none⟩)), (12, .slice A1 (Pool.rw' (L.getD j Pool.Wait.zero) (L.take k)).length c1), (13, .int .i64 (k : Int)), (14, .pointer (some ⟨b147, 0, none⟩))]) ([It.blk b147 38 (Pool.Wait.cells (Pool.raise (L.getD j Pool.Wait.zero) (L.getD k Pool.Wait.zero))), It.row 38 76 (.slice A1 (Pool.rw' (L.getD j Pool.Wait.zero) (L.take k)).length c1) (Pool.rw' (L.getD j Pool.Wait.zero) (L.take k)).length (Pool.wc (Pool.rw' (L.getD j Pool.Wait.zero) (L.take k))), It.blk b4 38 (Pool.Wait.cells (L.getD j Pool.Wait.zero)), It.blk b1 38 (Pool.Wait.cells Pool.Wait.zero), It.row 38 76 (.slice A L.length cc) L.length (Pool.wc L), It.blk xp 32 [i64 size, (.slice A L.length cc)], It.blk mb 3 (nx.map i64)]) aC wC) ?_ ?_
                · skip
                  refine cnd_f H206 rfl ?_
                  refine wp_skip ?_
                  refine cut_n ?_
                  first | (have hz := isFol; exact H206.weak ⟨rfl, rfl, rfl, rfl, rfl, rfl, rfl, rfl, rfl, trivial⟩ (ib (by rw [Pool.raise_yes (show Pool.follows _ _ from ⟨by assumption, by assumption, by assumption⟩)]; rfl))) | (exact H206.weak ⟨rfl, rfl, rfl, rfl, rfl, rfl, rfl, rfl, rfl, trivial⟩ (ib (by rw [Pool.raise_no (by rintro ⟨a, b, c⟩; first | contradiction | omega)]; rfl)))
                · clear H206; intro a208 wx208 hI208
                  have H208 := hI208
                  refine then_n ?_
                  refine wp_seq ?_
                  have hwr := Pool.raise_wf hwj hwk
                  have hr1 := hwr.tx.hand
                  have hr2 := hwr.tx.tag
                  have hrk := Pool.raise_keeps (L.getD j Pool.Wait.zero) (L.getD k Pool.Wait.zero)
                  refine reg ?_
                  refine plain (y_fieldB rfl z_field38_1 rfl (by first | (simp only [Nat.zero_add, Nat.add_zero, Nat.reduceAdd]; rfl) | rfl)) rfl rfl rfl H208 ?_
                  clear H208; intro a209 H209
                  refine plain (y_loadB rfl z_agg3 rfl (by repeat (first | exact Mh | apply Mt)) (q_ix_c8b32b32c4_72 (by assumption) (by assumption))) rfl rfl rfl H209 ?_
                  clear H209; intro a210 H210
                  refine plain (y_fieldB rfl z_field38_1 rfl (by first | (simp only [Nat.zero_add, Nat.add_zero, Nat.reduceAdd]; rfl) | rfl)) rfl rfl rfl H210 ?_
                  clear H210; intro a211 H211
                  refine plain (y_loadB rfl z_agg3 rfl (by repeat (first | exact Mh | apply Mt)) (q_ix_c8b32b32c4_72 (by assumption) (by assumption))) rfl rfl rfl H211 ?_
                  clear H211; intro a212 H212
                  refine plain (y_neq rfl rfl rfl) rfl rfl rfl H212 ?_
                  clear H212; intro a213 H213
                  refine fin ?_
                  refine then_n ?_
                  refine cnd H213 rfl (fun hc214 => ?_) (fun hc214 => ?_) -- cond 11
                  · skip
                    try simp only [decide_eq_true_eq, decide_eq_false_iff_not, Bool.not_eq_true', Bool.not_eq_false', Bool.and_eq_true, Bool.not_eq_true, Bool.not_eq_false] at hc214
                    rw [hrk.2.1] at hc214
                    have isYes := True.intro
                    refine reg ?_
                    refine plain (y_move rfl rfl) rfl rfl rfl H213 ?_
                    clear H213; intro a215 H215
                    refine plain (y_loadAB rfl z_agg38 z_size38 rfl (by repeat (first | exact Mh | apply Mt)) (q_ld_c8b32b32c4_0_76 (by assumption) (by assumption)) (q_len_c8b32b32c4 (by assumption) (by assumption))) rfl rfl rfl H215 ?_
                    clear H215; intro a216 H216
                    refine st_buildSlice rfl Try.underlying30 z_size38 z_zero38 rfl rfl rfl (lay_agg (agg_cells _) hwr.len rfl) rfl rfl rfl H216 ?_
                    clear H216; intro b217 a217 wx217 H217
                    refine st_append rfl z_slice30 z_notint30 rfl rfl (fun _ => (by repeat (first | exact Uh | apply Ut))) (fun w hs => Src.slice ((rd_blkA (by repeat (first | exact Mh | apply Mt))) w hs) hwr.len (Pool.wait_cell _)) (by unfold maxLen at *; omega) (by omega) rfl rfl rfl H217 ?_
                    clear H217; intro v218 a218 wx218 hnil218 H218
                    obtain ⟨ArY, crY, hvrY, hRrY, hmrY⟩ := row_shape (v := v218) H218.sep (by repeat (first | exact Mh | apply Mt))
                    subst hvrY
                    refine plain (y_assign rfl rfl) rfl rfl rfl H218 ?_
                    clear H218; intro a219 H219
                    refine fin ?_
                    refine inb_n ?_
                    refine then_n ?_
                    refine reg ?_
                    refine plain (y_move rfl rfl) rfl rfl rfl H219 ?_
                    clear H219; intro a220 H220
                    refine plain (y_add rfl rfl rfl (by first | exact w64 (by omega) (by omega) | rfl)) rfl rfl rfl H220 ?_
                    clear H220; intro a221 H221
                    refine plain (y_assign rfl rfl) rfl rfl rfl H221 ?_
                    clear H221; intro a222 H222
                    refine fin ?_
                    refine then_n ?_
                    first | (have hz := isYes; refine ⟨(k + 1, .slice ArY ((Pool.rw' (L.getD j Pool.Wait.zero) (L.take k)).length + 1) crY), by dsimp only; omega, by dsimp only; omega, (H222.drop (List.Sublist.cons _ (List.Sublist.cons _ (List.Sublist.refl _)))).weak ⟨rfl, rfl, rfl, rfl, rfl, rfl, rfl, fi rfl (by dsimp only; omega), trivial⟩ (by dsimp only; rw [Pool.rw_yes hkl (by assumption), Pool.wc_append, Pool.wc_one, List.length_append]; rfl)⟩) | (refine ⟨(k + 1, .slice A1 (Pool.rw' (L.getD j Pool.Wait.zero) (L.take k)).length c1), by dsimp only; omega, by dsimp only; omega, (H222.drop (List.Sublist.cons _ (List.Sublist.refl _))).weak ⟨rfl, rfl, rfl, rfl, rfl, rfl, rfl, fi rfl (by dsimp only; omega), trivial⟩ (by dsimp only; rw [Pool.rw_no hkl (by first | assumption | omega)])⟩)
                  · skip
                    try simp only [decide_eq_true_eq, decide_eq_false_iff_not, Bool.not_eq_true', Bool.not_eq_false', Bool.and_eq_true, Bool.not_eq_true, Bool.not_eq_false] at hc214
                    rw [hrk.2.1] at hc214
                    refine wp_skip ?_
                    refine inb_n ?_
                    refine then_n ?_
                    refine reg ?_
                    refine plain (y_move rfl rfl) rfl rfl rfl H213 ?_
                    clear H213; intro a223 H223
                    refine plain (y_add rfl rfl rfl (by first | exact w64 (by omega) (by omega) | rfl)) rfl rfl rfl H223 ?_
                    clear H223; intro a224 H224
                    refine plain (y_assign rfl rfl) rfl rfl rfl H224 ?_
                    clear H224; intro a225 H225
                    refine fin ?_
                    refine then_n ?_
                    first | (have hz := isYes; refine ⟨(k + 1, .slice ArY ((Pool.rw' (L.getD j Pool.Wait.zero) (L.take k)).length + 1) crY), by dsimp only; omega, by dsimp only; omega, (H225.drop (List.Sublist.cons _ (List.Sublist.cons _ (List.Sublist.refl _)))).weak ⟨rfl, rfl, rfl, rfl, rfl, rfl, rfl, fi rfl (by dsimp only; omega), trivial⟩ (by dsimp only; rw [Pool.rw_yes hkl (by assumption), Pool.wc_append, Pool.wc_one, List.length_append]; rfl)⟩) | (refine ⟨(k + 1, .slice A1 (Pool.rw' (L.getD j Pool.Wait.zero) (L.take k)).length c1), by dsimp only; omega, by dsimp only; omega, (H225.drop (List.Sublist.cons _ (List.Sublist.refl _))).weak ⟨rfl, rfl, rfl, rfl, rfl, rfl, rfl, fi rfl (by dsimp only; omega), trivial⟩ (by dsimp only; rw [Pool.rw_no hkl (by first | assumption | omega)])⟩)
        · first
          | fail
          | skip
            clear H156; intro H226
            try simp only [decide_eq_true_eq, decide_eq_false_iff_not, Bool.not_eq_true', Bool.not_eq_false', Bool.and_eq_true, Bool.not_eq_true, Bool.not_eq_false] at hg157
            refine skip rfl rfl rfl H226 ?_
            clear H226; intro a227 H227
            refine skip rfl rfl rfl H227 ?_
            clear H227; intro a228 H228
            refine skip rfl rfl rfl H228 ?_
            clear H228; intro a229 H229
            refine skip rfl rfl rfl H229 ?_
            clear H229; intro a230 H230
            refine skip rfl rfl rfl H230 ?_
            clear H230; intro a231 H231
            refine skip rfl rfl rfl H231 ?_
            clear H231; intro a232 H232
            refine skip rfl rfl rfl H232 ?_
            clear H232; intro a233 H233
            refine skip rfl rfl rfl H233 ?_
            clear H233; intro a234 H234
            refine plain (y_pick_f rfl rfl rfl) rfl rfl rfl H234 ?_
            clear H234; intro a235 H235
            refine plain (y_move rfl rfl) rfl rfl rfl H235 ?_
            clear H235; intro a236 H236
            refine skip rfl rfl rfl H236 ?_
            clear H236; intro a237 H237
            refine skip rfl rfl rfl H237 ?_
            clear H237; intro a238 H238
            refine skip rfl rfl rfl H238 ?_
            clear H238; intro a239 H239
            refine plain (y_pick_f rfl rfl rfl) rfl rfl rfl H239 ?_
            clear H239; intro a240 H240
            refine fin ?_
            refine then_n ?_
            refine wp_cut (fun aC wC => St Try.f17.ntmps (fps [It.row 38 76 (.slice A L.length cc) L.length (Pool.wc L), It.blk xp 32 [i64 size, (.slice A L.length cc)], It.blk mb 3 (nx.map i64)]) w ([(0, .pointer (some ⟨xp, 0, none⟩)), (1, .int .i64 now), (2, .slice (some ⟨mb, 0, none⟩) 64 64), (6, .pointer (some ⟨b1, 0, none⟩)), (7, .bool false), (8, .pointer (some ⟨b4, 0, none⟩)), (12, .slice A1 (Pool.rw' (L.getD j Pool.Wait.zero) (L.take k)).length c1), (13, .int .i64 (k : Int)), (14, .pointer (some ⟨b147, 0, none⟩))]) ([It.blk b147 38 (Pool.Wait.cells (Pool.raise (L.getD j Pool.Wait.zero) (L.getD k Pool.Wait.zero))), It.row 38 76 (.slice A1 (Pool.rw' (L.getD j Pool.Wait.zero) (L.take k)).length c1) (Pool.rw' (L.getD j Pool.Wait.zero) (L.take k)).length (Pool.wc (Pool.rw' (L.getD j Pool.Wait.zero) (L.take k))), It.blk b4 38 (Pool.Wait.cells (L.getD j Pool.Wait.zero)), It.blk b1 38 (Pool.Wait.cells Pool.Wait.zero), It.row 38 76 (.slice A L.length cc) L.length (Pool.wc L), It.blk xp 32 [i64 size, (.slice A L.length cc)], It.blk mb 3 (nx.map i64)]) aC wC) ?_ ?_
            · skip
              refine cnd_f H240 rfl ?_
              refine wp_skip ?_
              refine cut_n ?_
              first | (have hz := isFol; exact H240.weak ⟨rfl, rfl, rfl, rfl, rfl, rfl, rfl, rfl, rfl, trivial⟩ (ib (by rw [Pool.raise_yes (show Pool.follows _ _ from ⟨by assumption, by assumption, by assumption⟩)]; rfl))) | (exact H240.weak ⟨rfl, rfl, rfl, rfl, rfl, rfl, rfl, rfl, rfl, trivial⟩ (ib (by rw [Pool.raise_no (by rintro ⟨a, b, c⟩; first | contradiction | omega)]; rfl)))
            · clear H240; intro a242 wx242 hI242
              have H242 := hI242
              refine then_n ?_
              refine wp_seq ?_
              have hwr := Pool.raise_wf hwj hwk
              have hr1 := hwr.tx.hand
              have hr2 := hwr.tx.tag
              have hrk := Pool.raise_keeps (L.getD j Pool.Wait.zero) (L.getD k Pool.Wait.zero)
              refine reg ?_
              refine plain (y_fieldB rfl z_field38_1 rfl (by first | (simp only [Nat.zero_add, Nat.add_zero, Nat.reduceAdd]; rfl) | rfl)) rfl rfl rfl H242 ?_
              clear H242; intro a243 H243
              refine plain (y_loadB rfl z_agg3 rfl (by repeat (first | exact Mh | apply Mt)) (q_ix_c8b32b32c4_72 (by assumption) (by assumption))) rfl rfl rfl H243 ?_
              clear H243; intro a244 H244
              refine plain (y_fieldB rfl z_field38_1 rfl (by first | (simp only [Nat.zero_add, Nat.add_zero, Nat.reduceAdd]; rfl) | rfl)) rfl rfl rfl H244 ?_
              clear H244; intro a245 H245
              refine plain (y_loadB rfl z_agg3 rfl (by repeat (first | exact Mh | apply Mt)) (q_ix_c8b32b32c4_72 (by assumption) (by assumption))) rfl rfl rfl H245 ?_
              clear H245; intro a246 H246
              refine plain (y_neq rfl rfl rfl) rfl rfl rfl H246 ?_
              clear H246; intro a247 H247
              refine fin ?_
              refine then_n ?_
              refine cnd H247 rfl (fun hc248 => ?_) (fun hc248 => ?_) -- cond 13
              · skip
                try simp only [decide_eq_true_eq, decide_eq_false_iff_not, Bool.not_eq_true', Bool.not_eq_false', Bool.and_eq_true, Bool.not_eq_true, Bool.not_eq_false] at hc248
                rw [hrk.2.1] at hc248
                have isYes := True.intro
                refine reg ?_
                refine plain (y_move rfl rfl) rfl rfl rfl H247 ?_
                clear H247; intro a249 H249
                refine plain (y_loadAB rfl z_agg38 z_size38 rfl (by repeat (first | exact Mh | apply Mt)) (q_ld_c8b32b32c4_0_76 (by assumption) (by assumption)) (q_len_c8b32b32c4 (by assumption) (by assumption))) rfl rfl rfl H249 ?_
                clear H249; intro a250 H250
                refine st_buildSlice rfl Try.underlying30 z_size38 z_zero38 rfl rfl rfl (lay_agg (agg_cells _) hwr.len rfl) rfl rfl rfl H250 ?_
                clear H250; intro b251 a251 wx251 H251
                refine st_append rfl z_slice30 z_notint30 rfl rfl (fun _ => (by repeat (first | exact Uh | apply Ut))) (fun w hs => Src.slice ((rd_blkA (by repeat (first | exact Mh | apply Mt))) w hs) hwr.len (Pool.wait_cell _)) (by unfold maxLen at *; omega) (by omega) rfl rfl rfl H251 ?_
                clear H251; intro v252 a252 wx252 hnil252 H252
                obtain ⟨ArY, crY, hvrY, hRrY, hmrY⟩ := row_shape (v := v252) H252.sep (by repeat (first | exact Mh | apply Mt))
                subst hvrY
                refine plain (y_assign rfl rfl) rfl rfl rfl H252 ?_
                clear H252; intro a253 H253
                refine fin ?_
                refine inb_n ?_
                refine then_n ?_
                refine reg ?_
                refine plain (y_move rfl rfl) rfl rfl rfl H253 ?_
                clear H253; intro a254 H254
                refine plain (y_add rfl rfl rfl (by first | exact w64 (by omega) (by omega) | rfl)) rfl rfl rfl H254 ?_
                clear H254; intro a255 H255
                refine plain (y_assign rfl rfl) rfl rfl rfl H255 ?_
                clear H255; intro a256 H256
                refine fin ?_
                refine then_n ?_
                first | (have hz := isYes; refine ⟨(k + 1, .slice ArY ((Pool.rw' (L.getD j Pool.Wait.zero) (L.take k)).length + 1) crY), by dsimp only; omega, by dsimp only; omega, (H256.drop (List.Sublist.cons _ (List.Sublist.cons _ (List.Sublist.refl _)))).weak ⟨rfl, rfl, rfl, rfl, rfl, rfl, rfl, fi rfl (by dsimp only; omega), trivial⟩ (by dsimp only; rw [Pool.rw_yes hkl (by assumption), Pool.wc_append, Pool.wc_one, List.length_append]; rfl)⟩) | (refine ⟨(k + 1, .slice A1 (Pool.rw' (L.getD j Pool.Wait.zero) (L.take k)).length c1), by dsimp only; omega, by dsimp only; omega, (H256.drop (List.Sublist.cons _ (List.Sublist.refl _))).weak ⟨rfl, rfl, rfl, rfl, rfl, rfl, rfl, fi rfl (by dsimp only; omega), trivial⟩ (by dsimp only; rw [Pool.rw_no hkl (by first | assumption | omega)])⟩)
              · skip
                try simp only [decide_eq_true_eq, decide_eq_false_iff_not, Bool.not_eq_true', Bool.not_eq_false', Bool.and_eq_true, Bool.not_eq_true, Bool.not_eq_false] at hc248
                rw [hrk.2.1] at hc248
                refine wp_skip ?_
                refine inb_n ?_
                refine then_n ?_
                refine reg ?_
                refine plain (y_move rfl rfl) rfl rfl rfl H247 ?_
                clear H247; intro a257 H257
                refine plain (y_add rfl rfl rfl (by first | exact w64 (by omega) (by omega) | rfl)) rfl rfl rfl H257 ?_
                clear H257; intro a258 H258
                refine plain (y_assign rfl rfl) rfl rfl rfl H258 ?_
                clear H258; intro a259 H259
                refine fin ?_
                refine then_n ?_
                first | (have hz := isYes; refine ⟨(k + 1, .slice ArY ((Pool.rw' (L.getD j Pool.Wait.zero) (L.take k)).length + 1) crY), by dsimp only; omega, by dsimp only; omega, (H259.drop (List.Sublist.cons _ (List.Sublist.cons _ (List.Sublist.refl _)))).weak ⟨rfl, rfl, rfl, rfl, rfl, rfl, rfl, fi rfl (by dsimp only; omega), trivial⟩ (by dsimp only; rw [Pool.rw_yes hkl (by assumption), Pool.wc_append, Pool.wc_one, List.length_append]; rfl)⟩) | (refine ⟨(k + 1, .slice A1 (Pool.rw' (L.getD j Pool.Wait.zero) (L.take k)).length c1), by dsimp only; omega, by dsimp only; omega, (H259.drop (List.Sublist.cons _ (List.Sublist.refl _))).weak ⟨rfl, rfl, rfl, rfl, rfl, rfl, rfl, fi rfl (by dsimp only; omega), trivial⟩ (by dsimp only; rw [Pool.rw_no hkl (by first | assumption | omega)])⟩)
      · skip
        try simp only [decide_eq_true_eq, decide_eq_false_iff_not, Bool.not_eq_true', Bool.not_eq_false', Bool.and_eq_true, Bool.not_eq_true, Bool.not_eq_false] at hc139
        refine wp_exit ?_
        refine then_x ?_
        refine then_x ?_
        refine inb_hit ?_
        refine then_n ?_
        refine wp_seq ?_
        rw [show L.take k = L from List.take_of_length_le (by omega), Pool.rw_all hg.sorted hjl] at H138
        refine reg ?_
        refine plain (y_move rfl rfl) rfl rfl rfl H138 ?_
        clear H138; intro a260 H260
        refine plain (y_move rfl rfl) rfl rfl rfl H260 ?_
        clear H260; intro a261 H261
        refine plain (y_nilCheck rfl rfl) rfl rfl rfl H261 ?_
        clear H261; intro a262 H262
        refine plain (y_fieldB rfl z_field32_1 rfl (by first | (simp only [Nat.zero_add, Nat.add_zero, Nat.reduceAdd]; rfl) | rfl)) rfl rfl rfl H262 ?_
        clear H262; intro a263 H263
        refine st_store1N rfl z_size30 rfl rfl rfl (by repeat (first | exact Uh | apply Ut)) q_len_c2 q_set_c2_1 (by decide) rfl rfl H263 ?_
        clear H263; intro wx264 H264
        refine fin ?_
        refine then_n ?_
        refine wp_seq ?_
        refine reg ?_
        refine plain (y_loadAB rfl z_agg38 z_size38 rfl (by repeat (first | exact Mh | apply Mt)) (q_ld_c8b32b32c4_0_76 (by assumption) (by assumption)) (q_len_c8b32b32c4 (by assumption) (by assumption))) rfl rfl rfl H264 ?_
        clear H264; intro a265 H265
        refine st_storeN rfl z_size38 rfl rfl (agg_cells _) (by repeat (first | exact Uh | apply Ut)) (q_one_c8b32b32c4 rfl rfl rfl rfl rfl rfl rfl rfl rfl rfl rfl rfl) (q_len_c8b32b32c4 (by assumption) (by assumption)) (q_len_c8b32b32c4 (by assumption) (by assumption)) (q_spl_c8b32b32c4_0_c8b32b32c4 (by assumption) (by assumption) (by assumption) (by assumption)) (by decide) rfl rfl H265 ?_
        clear H265; intro wx266 H266
        refine plain (y_assign rfl rfl) rfl rfl rfl H266 ?_
        clear H266; intro a267 H267
        refine fin ?_
        refine then_n ?_
        refine wp_ret ?_
        -- return 2
        refine retct rfl H267 rfl z_agg38 z_size38 (by repeat (first | exact Mh | apply Mt)) (q_len_c8b32b32c4 (by assumption) (by assumption)) rfl ?_
        first | (have hz := hnone; rw [Pool.next_no (p := ⟨size, L⟩) hnone]; exact ⟨_, _, rfl, ⟨rfl, _, rfl⟩, H267.sep.sub (by repeat (first | exact S1 | exact S0 | apply S2 | apply S3))⟩) | (rw [Pool.next_yes (p := ⟨size, L⟩) hpk]; exact ⟨_, _, rfl, ⟨rfl, _, rfl⟩, H267.sep.sub (by repeat (first | exact S1 | exact S0 | apply S2 | apply S3))⟩)

end Go.Proofs.Ytbdkgmkaakoigaa.P_R3

set_option linter.unusedVariables false
set_option linter.unusedSimpArgs false
namespace Go.Proofs.Ytbdkgmkaakoigaa.P_New
open Go.Sx Go.RowKit

theorem z_zeroN63 : zeroL Try.prog 63 = some ((.int .i64 0 :: (.slice none 0 0 :: []))) := by kernel_rfl
theorem z_places63 : placesB Try.prog 63 = some [(0, 1), (1, 1)] := by kernel_rfl
theorem q_len_c2 {a0 a1 : Value} : (a0 :: a1 :: []).length = 2 := (len_c (n := 1) (len_c (n := 0) len_n))
theorem q_spl_c2_0_c1 {a0 a1 : Value} {b0 : Value} : spl (a0 :: a1 :: []) 0 (b0 :: []) = b0 :: a1 :: [] := spl_0
theorem z_agg3 : aggB Try.prog 3 = some false := by kernel_rfl
theorem z_agg23 : aggB Try.prog 23 = some false := by kernel_rfl
theorem z_size3 : sizeB Try.prog 3 = some 1 := by kernel_rfl

set_option maxRecDepth 100000 in
set_option maxHeartbeats 1000000 in
theorem pnew (size : Int) (h1 : 1 ≤ size ∧ size ≤ 256) (w : World) : Calls Try.prog 8 #[.int .i64 size] w (Post [] w fun u l' => ∃ bp, u = .tuple #[.pointer (some ⟨bp, 0, none⟩), .int .i64 0] ∧ l' = [It.row 38 76 (.slice none 0 0) ([] : List Pool.Wait).length (Pool.wc ([] : List Pool.Wait)), It.blk bp 63 [i64 size, (.slice none 0 0)]]) := by
  have lz32 : (List.replicate 32 (0 : UInt8)).length = 32 := List.length_replicate
  refine enterL (args := [.int .i64 size]) Try.func8 rfl rfl (l := []) (Sep.refl _) ?_
  intro a0 H0
  refine wp_seq ?_
  refine reg ?_
  refine plain (y_assign rfl rfl) rfl rfl rfl H0 ?_
  clear H0; intro a1 H1
  refine plain (y_assign rfl rfl) rfl rfl rfl H1 ?_
  clear H1; intro a2 H2
  refine fin ?_
  refine then_n ?_
  refine wp_seq ?_
  refine wp_seq ?_
  refine reg ?_
  refine plain (y_move rfl rfl) rfl rfl rfl H2 ?_
  clear H2; intro a3 H3
  refine plain (y_lss rfl rfl rfl) rfl rfl rfl H3 ?_
  clear H3; intro a4 H4
  refine plain (y_move rfl rfl) rfl rfl rfl H4 ?_
  clear H4; intro a5 H5
  have H7 := H5.know (d := 6) (v := .bool false) rfl (congrArg Value.bool (decide_eq_false (by omega)))
  clear H5
  refine plain (y_move rfl rfl) rfl rfl rfl H7 ?_
  clear H7; intro a8 H8
  refine plain (y_gtr rfl rfl rfl) rfl rfl rfl H8 ?_
  clear H8; intro a9 H9
  refine plain (y_pick_f rfl rfl rfl) rfl rfl rfl H9 ?_
  clear H9; intro a10 H10
  refine fin ?_
  refine then_n ?_
  refine cnd H10 rfl (fun hc11 => ?_) (fun hc11 => ?_) -- cond 1
  · (try simp only [decide_eq_true_eq, decide_eq_false_iff_not, Bool.not_eq_true', Bool.not_eq_false', Bool.and_eq_true, Bool.not_eq_true, Bool.not_eq_false] at hc11); (exfalso; omega)
  · skip
    try simp only [decide_eq_true_eq, decide_eq_false_iff_not, Bool.not_eq_true', Bool.not_eq_false', Bool.and_eq_true, Bool.not_eq_true, Bool.not_eq_false] at hc11
    refine wp_skip ?_
    refine then_n ?_
    refine wp_seq ?_
    refine reg ?_
    refine plain (y_move rfl rfl) rfl rfl rfl H10 ?_
    clear H10; intro a12 H12
    refine plain (y_build rfl z_zeroN63 z_places63 rfl (lay_1 (off := 0) (n := 2) rfl q_len_c2 (by decide) q_spl_c2_0_c1 lay_n (by rfl))) rfl rfl rfl H12 ?_
    clear H12; intro a13 H13
    refine st_box rfl rfl (agg_cells _) rfl rfl rfl H13 ?_
    clear H13; intro b14 a14 wx14 H14
    refine plain (y_assign rfl rfl) rfl rfl rfl H14 ?_
    clear H14; intro a15 H15
    refine plain (y_assign rfl rfl) rfl rfl rfl H15 ?_
    clear H15; intro a16 H16
    refine fin ?_
    refine then_n ?_
    refine wp_ret ?_
    -- return 1
    refine ret2 rfl H16 rfl rfl ?_
    replace H16 := H16.nilRow 38 76
    first | (exfalso; omega) | (exact ⟨_, _, rfl, ⟨b14, rfl, rfl⟩, H16.sep⟩)
set_option maxRecDepth 100000 in
set_option maxHeartbeats 1000000 in
theorem pnewBad (size : Int) (h1 : ¬ (1 ≤ size ∧ size ≤ 256)) (w : World) : Calls Try.prog 8 #[.int .i64 size] w (Gives (.tuple #[.pointer none, .int .i64 2]) [] w) := by
  have lz32 : (List.replicate 32 (0 : UInt8)).length = 32 := List.length_replicate
  refine enterL (args := [.int .i64 size]) Try.func8 rfl rfl (l := []) (Sep.refl _) ?_
  intro a0 H0
  refine wp_seq ?_
  refine reg ?_
  refine plain (y_assign rfl rfl) rfl rfl rfl H0 ?_
  clear H0; intro a1 H1
  refine plain (y_assign rfl rfl) rfl rfl rfl H1 ?_
  clear H1; intro a2 H2
  refine fin ?_
  refine then_n ?_
  refine wp_seq ?_
  refine wp_seq ?_
  refine reg ?_
  refine plain (y_move rfl rfl) rfl rfl rfl H2 ?_
  clear H2; intro a3 H3
  refine plain (y_lss rfl rfl rfl) rfl rfl rfl H3 ?_
  clear H3; intro a4 H4
  refine plain (y_move rfl rfl) rfl rfl rfl H4 ?_
  clear H4; intro a5 H5
  refine Sx.part (d := 6) H5 rfl (fun hg6 => ?_) (fun hg6 => ?_)
  · first
    | fail
    | skip
      clear H5; intro H7
      try simp only [decide_eq_true_eq, decide_eq_false_iff_not, Bool.not_eq_true', Bool.not_eq_false', Bool.and_eq_true, Bool.not_eq_true, Bool.not_eq_false] at hg6
      refine skip rfl rfl rfl H7 ?_
      clear H7; intro a8 H8
      refine skip rfl rfl rfl H8 ?_
      clear H8; intro a9 H9
      refine plain (y_pick_t rfl rfl rfl) rfl rfl rfl H9 ?_
      clear H9; intro a10 H10
      refine fin ?_
      refine then_n ?_
      refine cnd_t H10 rfl ?_
      refine wp_seq ?_
      refine reg ?_
      refine plain (y_assign rfl rfl) rfl rfl rfl H10 ?_
      clear H10; intro a12 H12
      refine plain (y_assign rfl rfl) rfl rfl rfl H12 ?_
      clear H12; intro a13 H13
      refine fin ?_
      refine then_n ?_
      refine wp_ret ?_
      refine then_r ?_
      -- return 1
      refine ret2 rfl H13 rfl rfl ?_
      exact ⟨_, [], rfl, ⟨rfl, rfl⟩, H13.sep.sub (List.nil_sublist _)⟩
  · first
    | fail
    | skip
      clear H5; intro H14
      try simp only [decide_eq_true_eq, decide_eq_false_iff_not, Bool.not_eq_true', Bool.not_eq_false', Bool.and_eq_true, Bool.not_eq_true, Bool.not_eq_false] at hg6
      refine plain (y_move rfl rfl) rfl rfl rfl H14 ?_
      clear H14; intro a15 H15
      refine plain (y_gtr rfl rfl rfl) rfl rfl rfl H15 ?_
      clear H15; intro a16 H16
      refine plain (y_pick_f rfl rfl rfl) rfl rfl rfl H16 ?_
      clear H16; intro a17 H17
      refine fin ?_
      refine then_n ?_
      refine cnd H17 rfl (fun hc18 => ?_) (fun hc18 => ?_) -- cond 2
      · skip
        try simp only [decide_eq_true_eq, decide_eq_false_iff_not, Bool.not_eq_true', Bool.not_eq_false', Bool.and_eq_true, Bool.not_eq_true, Bool.not_eq_false] at hc18
        refine wp_seq ?_
        refine reg ?_
        refine plain (y_assign rfl rfl) rfl rfl rfl H17 ?_
        clear H17; intro a19 H19
        refine plain (y_assign rfl rfl) rfl rfl rfl H19 ?_
        clear H19; intro a20 H20
        refine fin ?_
        refine then_n ?_
        refine wp_ret ?_
        refine then_r ?_
        -- return 2
        refine ret2 rfl H20 rfl rfl ?_
        exact ⟨_, [], rfl, ⟨rfl, rfl⟩, H20.sep.sub (List.nil_sublist _)⟩
      · (try simp only [decide_eq_true_eq, decide_eq_false_iff_not, Bool.not_eq_true', Bool.not_eq_false', Bool.and_eq_true, Bool.not_eq_true, Bool.not_eq_false] at hc18); (exfalso; omega)
set_option maxRecDepth 100000 in
set_option maxHeartbeats 1000000 in
theorem pawc (nb : Nat) (n q : Int) {w : World} (hp : (It.blk nb 3 [i64 n]).P w) : Calls Try.prog 24 #[.int .i64 q, .pointer (some ⟨nb, 0, none⟩)] w (Gives (.int .i64 n) [] w) := by
  have lz32 : (List.replicate 32 (0 : UInt8)).length = 32 := List.length_replicate
  refine enterL (args := [.int .i64 q, .pointer (some ⟨nb, 0, none⟩)]) Try.func24 rfl rfl (l := []) (Sep.refl _) ?_
  intro a0 H0
  refine wp_seq ?_
  refine reg ?_
  refine plain (y_assign rfl rfl) rfl rfl rfl H0 ?_
  clear H0; intro a1 H1
  refine fin ?_
  refine then_n ?_
  refine wp_seq ?_
  refine reg ?_
  refine plain (y_loadO rfl z_agg3 rfl (blk_cell hp (by rfl)) (by simp)) rfl rfl rfl H1 ?_
  clear H1; intro a2 H2
  refine plain (y_assign rfl rfl) rfl rfl rfl H2 ?_
  clear H2; intro a3 H3
  refine fin ?_
  refine then_n ?_
  refine wp_ret ?_
  -- return 1
  refine ret1 rfl H3 rfl ?_
  exact ⟨_, [], rfl, ⟨rfl, rfl⟩, H3.sep.sub (List.nil_sublist _)⟩
set_option maxRecDepth 100000 in
set_option maxHeartbeats 1000000 in
theorem pdoc (nx : List Int) (h64 : nx.length = 64) (nb : Nat) (A : Option Addr) (c : Nat) (q : Int) (hq : 0 ≤ q ∧ q ≤ 63) {w : World} (hp : (It.blk nb 23 [.slice A 64 c]).P w) (hR : Rd w A (nx.map i64)) : Calls Try.prog 16 #[.int .i64 q, .pointer (some ⟨nb, 0, none⟩)] w (Gives (.int .i64 (nx.getD q.toNat 0)) [] w) := by
  have lz32 : (List.replicate 32 (0 : UInt8)).length = 32 := List.length_replicate
  refine enterL (args := [.int .i64 q, .pointer (some ⟨nb, 0, none⟩)]) Try.func16 rfl rfl (l := []) (Sep.refl _) ?_
  intro a0 H0
  refine wp_seq ?_
  refine reg ?_
  refine plain (y_assign rfl rfl) rfl rfl rfl H0 ?_
  clear H0; intro a1 H1
  refine fin ?_
  refine then_n ?_
  refine wp_seq ?_
  refine reg ?_
  refine plain (y_loadO rfl z_agg23 rfl (blk_cell hp (by rfl)) (by simp)) rfl rfl rfl H1 ?_
  clear H1; intro a2 H2
  refine plain (y_move rfl rfl) rfl rfl rfl H2 ?_
  clear H2; intro a3 H3
  refine plain (y_ixR rfl Try.underlying23 z_size3 rfl rfl (by omega) (by omega) (rd_old hR (by simp)) (by rw [List.length_map]; omega)) rfl rfl rfl H3 ?_
  clear H3; intro a4 H4
  refine plain (y_loadR rfl z_agg3 rfl (rd_old hR (by simp)) (by rw [Nat.mul_one]; exact i64_get nx q.toNat (by omega))) rfl rfl rfl H4 ?_
  clear H4; intro a5 H5
  refine plain (y_assign rfl rfl) rfl rfl rfl H5 ?_
  clear H5; intro a6 H6
  refine fin ?_
  refine then_n ?_
  refine wp_ret ?_
  -- return 1
  refine ret1 rfl H6 rfl ?_
  exact ⟨_, [], rfl, ⟨rfl, rfl⟩, H6.sep.sub (List.nil_sublist _)⟩
end Go.Proofs.Ytbdkgmkaakoigaa.P_New

set_option linter.unusedVariables false
set_option linter.unusedSimpArgs false
namespace Go.Proofs.Ytbdkgmkaakoigaa.P_K
open Go.Sx Go.RowKit

theorem z_field38_3 : fieldB Try.prog 38 3 = some 74 := by kernel_rfl
theorem z_agg3 : aggB Try.prog 3 = some false := by kernel_rfl
theorem q_ix_c8b32b32c4_74 {a0 a1 a2 a3 a4 a5 a6 a7 a10 a11 a12 a13 : Value} {t8 t9 : List UInt8} (h8 : t8.length = 32) (h9 : t9.length = 32) : (a0 :: a1 :: a2 :: a3 :: a4 :: a5 :: a6 :: a7 :: (t8.map u8 ++ ((t9.map u8 ++ (a10 :: a11 :: a12 :: a13 :: [])))))[74]? = some a12 := (ix_c (o := 73) (ix_c (o := 72) (ix_c (o := 71) (ix_c (o := 70) (ix_c (o := 69) (ix_c (o := 68) (ix_c (o := 67) (ix_c (o := 66) (ix_b (k := 32) (o := 34) h8 rfl (ix_b (k := 32) (o := 2) h9 rfl (ix_c (o := 1) (ix_c (o := 0) ix_0))))))))))))
theorem z_field38_4 : fieldB Try.prog 38 4 = some 75 := by kernel_rfl
theorem q_ix_c8b32b32c4_75 {a0 a1 a2 a3 a4 a5 a6 a7 a10 a11 a12 a13 : Value} {t8 t9 : List UInt8} (h8 : t8.length = 32) (h9 : t9.length = 32) : (a0 :: a1 :: a2 :: a3 :: a4 :: a5 :: a6 :: a7 :: (t8.map u8 ++ ((t9.map u8 ++ (a10 :: a11 :: a12 :: a13 :: [])))))[75]? = some a13 := (ix_c (o := 74) (ix_c (o := 73) (ix_c (o := 72) (ix_c (o := 71) (ix_c (o := 70) (ix_c (o := 69) (ix_c (o := 68) (ix_c (o := 67) (ix_b (k := 32) (o := 35) h8 rfl (ix_b (k := 32) (o := 3) h9 rfl (ix_c (o := 2) (ix_c (o := 1) (ix_c (o := 0) ix_0)))))))))))))
theorem z_size3 : sizeB Try.prog 3 = some 1 := by kernel_rfl

set_option maxRecDepth 100000 in
set_option maxHeartbeats 1000000 in
theorem pkey (x : Pool.Wait) (wf : Pool.Wait.Wf x) (w : World) : Calls Try.prog 33 #[.agg (Pool.Wait.cells x).toArray] w (Gives (.complex .f64 (fl x.time) (fl x.place)) [] w) := by
  have whd := wf.tx.hand
  have wtg := wf.tx.tag
  have lz32 : (List.replicate 32 (0 : UInt8)).length = 32 := List.length_replicate
  have lz0 := wf.tx.hand
  have lz1 := wf.tx.tag
  refine enterL (args := [.agg (Pool.Wait.cells x).toArray]) Try.func33 rfl rfl (l := []) (Sep.refl _) ?_
  intro a0 H0
  refine wp_seq ?_
  refine reg ?_
  refine st_box rfl rfl (agg_cells _) rfl rfl rfl H0 ?_
  clear H0; intro b1 a1 wx1 H1
  refine plain (y_assign rfl rfl) rfl rfl rfl H1 ?_
  clear H1; intro a2 H2
  refine fin ?_
  refine then_n ?_
  refine wp_seq ?_
  refine reg ?_
  refine plain (y_fieldB rfl z_field38_3 rfl (by first | (simp only [Nat.zero_add, Nat.add_zero, Nat.reduceAdd]; rfl) | rfl)) rfl rfl rfl H2 ?_
  clear H2; intro a3 H3
  refine plain (y_loadB rfl z_agg3 rfl (by repeat (first | exact Mh | apply Mt)) (q_ix_c8b32b32c4_74 (by assumption) (by assumption))) rfl rfl rfl H3 ?_
  clear H3; intro a4 H4
  refine plain (y_fconv rfl Try.underlying3 Try.underlying75 rfl) rfl rfl rfl H4 ?_
  clear H4; intro a5 H5
  refine plain (y_fieldB rfl z_field38_4 rfl (by first | (simp only [Nat.zero_add, Nat.add_zero, Nat.reduceAdd]; rfl) | rfl)) rfl rfl rfl H5 ?_
  clear H5; intro a6 H6
  refine plain (y_loadB rfl z_agg3 rfl (by repeat (first | exact Mh | apply Mt)) (q_ix_c8b32b32c4_75 (by assumption) (by assumption))) rfl rfl rfl H6 ?_
  clear H6; intro a7 H7
  refine plain (y_fconv rfl Try.underlying3 Try.underlying75 rfl) rfl rfl rfl H7 ?_
  clear H7; intro a8 H8
  refine plain (y_complex rfl rfl rfl) rfl rfl rfl H8 ?_
  clear H8; intro a9 H9
  refine plain (y_assign rfl rfl) rfl rfl rfl H9 ?_
  clear H9; intro a10 H10
  refine fin ?_
  refine then_n ?_
  refine wp_ret ?_
  -- return 1
  refine ret1 rfl H10 rfl ?_
  exact ⟨_, [], rfl, ⟨rfl, rfl⟩, H10.sep.sub (List.nil_sublist _)⟩
set_option maxRecDepth 100000 in
set_option maxHeartbeats 1000000 in
theorem pbelow (a b : Pool.Wait) (ha : (0 ≤ a.time ∧ a.time ≤ 1099511627776) ∧ (0 ≤ a.place ∧ a.place ≤ 1099511627776)) (hb : (0 ≤ b.time ∧ b.time ≤ 1099511627776) ∧ (0 ≤ b.place ∧ b.place ≤ 1099511627776)) (w : World) : Calls Try.prog 32 #[.complex .f64 (fl a.time) (fl a.place), .complex .f64 (fl b.time) (fl b.place)] w (Gives (.bool (decide (Pool.less a b))) [] w) := by
  have lz32 : (List.replicate 32 (0 : UInt8)).length = 32 := List.length_replicate
  refine enterL (args := [.complex .f64 (fl a.time) (fl a.place), .complex .f64 (fl b.time) (fl b.place)]) Try.func32 rfl rfl (l := []) (Sep.refl _) ?_
  intro a0 H0
  refine wp_seq ?_
  refine reg ?_
  refine plain (y_assign rfl rfl) rfl rfl rfl H0 ?_
  clear H0; intro a1 H1
  refine fin ?_
  refine then_n ?_
  refine wp_seq ?_
  refine reg ?_
  refine plain (y_move rfl rfl) rfl rfl rfl H1 ?_
  clear H1; intro a2 H2
  refine plain (y_real rfl rfl) rfl rfl rfl H2 ?_
  clear H2; intro a3 H3
  refine plain (y_move rfl rfl) rfl rfl rfl H3 ?_
  clear H3; intro a4 H4
  refine plain (y_real rfl rfl) rfl rfl rfl H4 ?_
  clear H4; intro a5 H5
  refine plain (y_flss rfl rfl rfl (by first | exact ha.1 | exact ha.2) (by first | exact hb.1 | exact hb.2)) rfl rfl rfl H5 ?_
  clear H5; intro a6 H6
  refine plain (y_move rfl rfl) rfl rfl rfl H6 ?_
  clear H6; intro a7 H7
  refine Sx.part (d := 10) H7 rfl (fun hg8 => ?_) (fun hg8 => ?_)
  · first
    | fail
    | skip
      clear H7; intro H9
      try simp only [decide_eq_true_eq, decide_eq_false_iff_not, Bool.not_eq_true', Bool.not_eq_false', Bool.and_eq_true, Bool.not_eq_true, Bool.not_eq_false] at hg8
      refine skip rfl rfl rfl H9 ?_
      clear H9; intro a10 H10
      refine skip rfl rfl rfl H10 ?_
      clear H10; intro a11 H11
      refine skip rfl rfl rfl H11 ?_
      clear H11; intro a12 H12
      refine skip rfl rfl rfl H12 ?_
      clear H12; intro a13 H13
      refine skip rfl rfl rfl H13 ?_
      clear H13; intro a14 H14
      refine skip rfl rfl rfl H14 ?_
      clear H14; intro a15 H15
      refine skip rfl rfl rfl H15 ?_
      clear H15; intro a16 H16
      refine skip rfl rfl rfl H16 ?_
      clear H16; intro a17 H17
      refine skip rfl rfl rfl H17 ?_
      clear H17; intro a18 H18
      refine skip rfl rfl rfl H18 ?_
      clear H18; intro a19 H19
      refine skip rfl rfl rfl H19 ?_
      clear H19; intro a20 H20
      refine skip rfl rfl rfl H20 ?_
      clear H20; intro a21 H21
      refine plain (y_pick_t rfl rfl rfl) rfl rfl rfl H21 ?_
      clear H21; intro a22 H22
      refine plain (y_assign rfl rfl) rfl rfl rfl H22 ?_
      clear H22; intro a23 H23
      refine fin ?_
      refine then_n ?_
      refine wp_ret ?_
      -- return 1
      refine ret1 rfl H23 rfl ?_
      refine ⟨_, [], rfl, ⟨?_, rfl⟩, H23.sep.sub (List.nil_sublist _)⟩
      clear H23
      first | exact congrArg Value.bool (decide_eq_true (by unfold Pool.less; omega)).symm | exact congrArg Value.bool (decide_eq_false (by unfold Pool.less; omega)).symm | exact congrArg Value.bool (decide_eq_decide.2 (by unfold Pool.less; omega))
  · first
    | fail
    | skip
      clear H7; intro H24
      try simp only [decide_eq_true_eq, decide_eq_false_iff_not, Bool.not_eq_true', Bool.not_eq_false', Bool.and_eq_true, Bool.not_eq_true, Bool.not_eq_false] at hg8
      refine plain (y_move rfl rfl) rfl rfl rfl H24 ?_
      clear H24; intro a25 H25
      refine plain (y_real rfl rfl) rfl rfl rfl H25 ?_
      clear H25; intro a26 H26
      refine plain (y_move rfl rfl) rfl rfl rfl H26 ?_
      clear H26; intro a27 H27
      refine plain (y_real rfl rfl) rfl rfl rfl H27 ?_
      clear H27; intro a28 H28
      refine plain (y_feql rfl rfl rfl (by first | exact ha.1 | exact ha.2) (by first | exact hb.1 | exact hb.2)) rfl rfl rfl H28 ?_
      clear H28; intro a29 H29
      refine plain (y_move rfl rfl) rfl rfl rfl H29 ?_
      clear H29; intro a30 H30
      refine Sx.part (d := 16) H30 rfl (fun hg31 => ?_) (fun hg31 => ?_)
      · first
        | fail
        | skip
          clear H30; intro H32
          try simp only [decide_eq_true_eq, decide_eq_false_iff_not, Bool.not_eq_true', Bool.not_eq_false', Bool.and_eq_true, Bool.not_eq_true, Bool.not_eq_false] at hg31
          refine plain (y_move rfl rfl) rfl rfl rfl H32 ?_
          clear H32; intro a33 H33
          refine plain (y_imag rfl rfl) rfl rfl rfl H33 ?_
          clear H33; intro a34 H34
          refine plain (y_move rfl rfl) rfl rfl rfl H34 ?_
          clear H34; intro a35 H35
          refine plain (y_imag rfl rfl) rfl rfl rfl H35 ?_
          clear H35; intro a36 H36
          refine plain (y_flss rfl rfl rfl (by first | exact ha.1 | exact ha.2) (by first | exact hb.1 | exact hb.2)) rfl rfl rfl H36 ?_
          clear H36; intro a37 H37
          refine plain (y_pick_t rfl rfl rfl) rfl rfl rfl H37 ?_
          clear H37; intro a38 H38
          refine plain (y_pick_f rfl rfl rfl) rfl rfl rfl H38 ?_
          clear H38; intro a39 H39
          refine plain (y_assign rfl rfl) rfl rfl rfl H39 ?_
          clear H39; intro a40 H40
          refine fin ?_
          refine then_n ?_
          refine wp_ret ?_
          -- return 2
          refine ret1 rfl H40 rfl ?_
          refine ⟨_, [], rfl, ⟨?_, rfl⟩, H40.sep.sub (List.nil_sublist _)⟩
          clear H40
          first | exact congrArg Value.bool (decide_eq_true (by unfold Pool.less; omega)).symm | exact congrArg Value.bool (decide_eq_false (by unfold Pool.less; omega)).symm | exact congrArg Value.bool (decide_eq_decide.2 (by unfold Pool.less; omega))
      · first
        | fail
        | skip
          clear H30; intro H41
          try simp only [decide_eq_true_eq, decide_eq_false_iff_not, Bool.not_eq_true', Bool.not_eq_false', Bool.and_eq_true, Bool.not_eq_true, Bool.not_eq_false] at hg31
          refine skip rfl rfl rfl H41 ?_
          clear H41; intro a42 H42
          refine skip rfl rfl rfl H42 ?_
          clear H42; intro a43 H43
          refine skip rfl rfl rfl H43 ?_
          clear H43; intro a44 H44
          refine skip rfl rfl rfl H44 ?_
          clear H44; intro a45 H45
          refine skip rfl rfl rfl H45 ?_
          clear H45; intro a46 H46
          refine plain (y_pick_f rfl rfl rfl) rfl rfl rfl H46 ?_
          clear H46; intro a47 H47
          refine plain (y_pick_f rfl rfl rfl) rfl rfl rfl H47 ?_
          clear H47; intro a48 H48
          refine plain (y_assign rfl rfl) rfl rfl rfl H48 ?_
          clear H48; intro a49 H49
          refine fin ?_
          refine then_n ?_
          refine wp_ret ?_
          -- return 3
          refine ret1 rfl H49 rfl ?_
          refine ⟨_, [], rfl, ⟨?_, rfl⟩, H49.sep.sub (List.nil_sublist _)⟩
          clear H49
          first | exact congrArg Value.bool (decide_eq_true (by unfold Pool.less; omega)).symm | exact congrArg Value.bool (decide_eq_false (by unfold Pool.less; omega)).symm | exact congrArg Value.bool (decide_eq_decide.2 (by unfold Pool.less; omega))
set_option maxRecDepth 100000 in
set_option maxHeartbeats 1000000 in
theorem pright (ns : List Int) (A : Option Addr) (m c : Nat) (hm : m = ns.length) (hl : ns.length ≤ 1000) {w : World} (hR : Rd w A (ns.map i64)) : Calls Try.prog 26 #[.slice A m c] w (Gives (.bool (Note.nums ns)) [] w) := by
  subst hm
  have lz32 : (List.replicate 32 (0 : UInt8)).length = 32 := List.length_replicate
  refine enterL (args := [.slice A ns.length c]) Try.func26 rfl rfl (l := []) (Sep.refl _) ?_
  intro a0 H0
  refine wp_seq ?_
  refine reg ?_
  refine plain (y_assign rfl rfl) rfl rfl rfl H0 ?_
  clear H0; intro a1 H1
  refine fin ?_
  refine then_n ?_
  refine wp_seq ?_
  refine wp_seq ?_
  refine reg ?_
  refine plain (y_move rfl rfl) rfl rfl rfl H1 ?_
  clear H1; intro a2 H2
  refine plain (y_len rfl Try.underlying23 rfl) rfl rfl rfl H2 ?_
  clear H2; intro a3 H3
  refine plain (y_move rfl rfl) rfl rfl rfl H3 ?_
  clear H3; intro a4 H4
  refine fin ?_
  refine then_n ?_
  refine wp_block ?_
  refine loop (ι := Nat) (fun k => [(0, .slice A ns.length c), (5, .slice A ns.length c), (6, .int .i64 (ns.length : Int)), (7, .int .i64 (k : Int))]) (fun k => []) (fun k => k ≤ ns.length ∧ (ns.take k).all Note.okNum = true) (fun k => ns.length - k) (0) ⟨Nat.zero_le _, rfl⟩ (H4.weak ⟨rfl, rfl, rfl, rfl, trivial⟩ rfl) ?_
  clear H4; intro k a5 wx5 hok5 H5
  have hok := hok5
  refine wp_seq ?_
  refine reg ?_
  refine plain (y_lss rfl rfl rfl) rfl rfl rfl H5 ?_
  clear H5; intro a6 H6
  refine fin ?_
  refine then_n ?_
  refine wp_seq ?_
  refine cnd H6 rfl (fun hc7 => ?_) (fun hc7 => ?_) -- cond 1
  · skip
    try simp only [decide_eq_true_eq, decide_eq_false_iff_not, Bool.not_eq_true', Bool.not_eq_false', Bool.and_eq_true, Bool.not_eq_true, Bool.not_eq_false] at hc7
    refine wp_skip ?_
    refine then_n ?_
    refine wp_seq ?_
    refine wp_block ?_
    refine wp_seq ?_
    refine reg ?_
    refine plain (y_ixR rfl Try.underlying23 z_size3 rfl rfl (by omega) (by omega) (rd_old (by assumption) (by simp)) (by rw [List.length_map]; omega)) rfl rfl rfl H6 ?_
    clear H6; intro a8 H8
    refine plain (y_loadR rfl z_agg3 rfl (rd_old (by assumption) (by simp)) (by rw [Nat.mul_one]; exact i64_get ns (k : Int).toNat (by omega))) rfl rfl rfl H8 ?_
    clear H8; intro a9 H9
    refine plain (y_assign rfl rfl) rfl rfl rfl H9 ?_
    clear H9; intro a10 H10
    refine fin ?_
    refine then_n ?_
    refine wp_seq ?_
    refine reg ?_
    refine plain (y_move rfl rfl) rfl rfl rfl H10 ?_
    clear H10; intro a11 H11
    refine plain (y_lss rfl rfl rfl) rfl rfl rfl H11 ?_
    clear H11; intro a12 H12
    refine plain (y_move rfl rfl) rfl rfl rfl H12 ?_
    clear H12; intro a13 H13
    refine Sx.part (d := 13) H13 rfl (fun hg14 => ?_) (fun hg14 => ?_)
    · first
      | fail
      | skip
        clear H13; intro H15
        try simp only [decide_eq_true_eq, decide_eq_false_iff_not, Bool.not_eq_true', Bool.not_eq_false', Bool.and_eq_true, Bool.not_eq_true, Bool.not_eq_false] at hg14
        refine skip rfl rfl rfl H15 ?_
        clear H15; intro a16 H16
        refine skip rfl rfl rfl H16 ?_
        clear H16; intro a17 H17
        refine plain (y_pick_t rfl rfl rfl) rfl rfl rfl H17 ?_
        clear H17; intro a18 H18
        refine fin ?_
        refine then_n ?_
        refine cnd_t H18 rfl ?_
        refine wp_seq ?_
        refine reg ?_
        refine plain (y_assign rfl rfl) rfl rfl rfl H18 ?_
        clear H18; intro a20 H20
        refine fin ?_
        refine then_n ?_
        refine wp_ret ?_
        refine inb_r ?_
        refine then_r ?_
        refine then_r ?_
        refine inb_r ?_
        refine then_r ?_
        -- return 1
        refine ret1 rfl H20 rfl ?_
        exact ⟨_, [], rfl, ⟨by rw [Note.nums_bad (k := k) (by omega) (by simp only [Int.toNat_natCast] at *; omega)], rfl⟩, H20.sep.sub (List.nil_sublist _)⟩
    · first
      | fail
      | skip
        clear H13; intro H21
        try simp only [decide_eq_true_eq, decide_eq_false_iff_not, Bool.not_eq_true', Bool.not_eq_false', Bool.and_eq_true, Bool.not_eq_true, Bool.not_eq_false] at hg14
        refine plain (y_move rfl rfl) rfl rfl rfl H21 ?_
        clear H21; intro a22 H22
        refine plain (y_gtr rfl rfl rfl) rfl rfl rfl H22 ?_
        clear H22; intro a23 H23
        refine plain (y_pick_f rfl rfl rfl) rfl rfl rfl H23 ?_
        clear H23; intro a24 H24
        refine fin ?_
        refine then_n ?_
        refine cnd H24 rfl (fun hc25 => ?_) (fun hc25 => ?_) -- cond 3
        · skip
          try simp only [decide_eq_true_eq, decide_eq_false_iff_not, Bool.not_eq_true', Bool.not_eq_false', Bool.and_eq_true, Bool.not_eq_true, Bool.not_eq_false] at hc25
          refine wp_seq ?_
          refine reg ?_
          refine plain (y_assign rfl rfl) rfl rfl rfl H24 ?_
          clear H24; intro a26 H26
          refine fin ?_
          refine then_n ?_
          refine wp_ret ?_
          refine inb_r ?_
          refine then_r ?_
          refine then_r ?_
          refine inb_r ?_
          refine then_r ?_
          -- return 2
          refine ret1 rfl H26 rfl ?_
          exact ⟨_, [], rfl, ⟨by rw [Note.nums_bad (k := k) (by omega) (by simp only [Int.toNat_natCast] at *; omega)], rfl⟩, H26.sep.sub (List.nil_sublist _)⟩
        · skip
          try simp only [decide_eq_true_eq, decide_eq_false_iff_not, Bool.not_eq_true', Bool.not_eq_false', Bool.and_eq_true, Bool.not_eq_true, Bool.not_eq_false] at hc25
          refine wp_skip ?_
          refine inb_n ?_
          refine then_n ?_
          refine reg ?_
          refine plain (y_add rfl rfl rfl (by first | exact w64 (by omega) (by omega) | rfl)) rfl rfl rfl H24 ?_
          clear H24; intro a27 H27
          refine plain (y_move rfl rfl) rfl rfl rfl H27 ?_
          clear H27; intro a28 H28
          refine fin ?_
          refine then_n ?_
          refine ⟨k + 1, by omega, ⟨by omega, Note.take_all 0 (by omega) hok.2 ?_⟩, H28.weak ⟨rfl, rfl, rfl, fi rfl (by omega), trivial⟩ rfl⟩
          simp only [Int.toNat_natCast, Note.okNum, decide_eq_true_eq] at *
          omega
  · skip
    try simp only [decide_eq_true_eq, decide_eq_false_iff_not, Bool.not_eq_true', Bool.not_eq_false', Bool.and_eq_true, Bool.not_eq_true, Bool.not_eq_false] at hc7
    refine wp_exit ?_
    refine then_x ?_
    refine then_x ?_
    refine inb_hit ?_
    refine then_n ?_
    refine wp_seq ?_
    refine reg ?_
    refine plain (y_assign rfl rfl) rfl rfl rfl H6 ?_
    clear H6; intro a29 H29
    refine fin ?_
    refine then_n ?_
    refine wp_ret ?_
    -- return 3
    refine ret1 rfl H29 rfl ?_
    exact ⟨_, [], rfl, ⟨by rw [Note.nums_all (k := k) (by omega) hok.2], rfl⟩, H29.sep.sub (List.nil_sublist _)⟩

end Go.Proofs.Ytbdkgmkaakoigaa.P_K

set_option linter.unusedVariables false
set_option linter.unusedSimpArgs false
namespace Go.Proofs.Ytbdkgmkaakoigaa.P_Pst
open Go.Sx Go.RowKit

theorem z_field63_1 : fieldB Try.prog 63 1 = some 1 := by kernel_rfl
theorem z_agg30 : aggB Try.prog 30 = some false := by kernel_rfl
theorem z_size38 : sizeB Try.prog 38 = some 76 := by kernel_rfl
theorem z_agg38 : aggB Try.prog 38 = some true := by kernel_rfl
theorem z_zeroN38 : zeroL Try.prog 38 = some ((.int .i64 0 :: (.int .i64 0 :: (.int .i64 0 :: (.int .i64 0 :: (.string ⟨#[]⟩ :: (.bool false :: (.int .i64 0 :: (.int .i64 0 :: ((List.replicate 32 (0 : UInt8)).map u8 ++ ((List.replicate 32 (0 : UInt8)).map u8 ++ (.int .i64 0 :: (.int .i64 0 :: (.int .i64 0 :: (.int .i64 0 :: []))))))))))))))) := by kernel_rfl
theorem q_one_c8b32b32c4 {a0 a1 a2 a3 a4 a5 a6 a7 a10 a11 a12 a13 : Value} {t8 t9 : List UInt8} (o0 : a0.oneCell' = true) (o1 : a1.oneCell' = true) (o2 : a2.oneCell' = true) (o3 : a3.oneCell' = true) (o4 : a4.oneCell' = true) (o5 : a5.oneCell' = true) (o6 : a6.oneCell' = true) (o7 : a7.oneCell' = true) (o10 : a10.oneCell' = true) (o11 : a11.oneCell' = true) (o12 : a12.oneCell' = true) (o13 : a13.oneCell' = true) : (a0 :: a1 :: a2 :: a3 :: a4 :: a5 :: a6 :: a7 :: (t8.map u8 ++ ((t9.map u8 ++ (a10 :: a11 :: a12 :: a13 :: []))))).all (·.oneCell') = true := (one_c o0 (one_c o1 (one_c o2 (one_c o3 (one_c o4 (one_c o5 (one_c o6 (one_c o7 (one_b (one_b (one_c o10 (one_c o11 (one_c o12 (one_c o13 one_n))))))))))))))
theorem q_len_c8b32b32c4 {a0 a1 a2 a3 a4 a5 a6 a7 a10 a11 a12 a13 : Value} {t8 t9 : List UInt8} (h8 : t8.length = 32) (h9 : t9.length = 32) : (a0 :: a1 :: a2 :: a3 :: a4 :: a5 :: a6 :: a7 :: (t8.map u8 ++ ((t9.map u8 ++ (a10 :: a11 :: a12 :: a13 :: []))))).length = 76 := (len_c (n := 75) (len_c (n := 74) (len_c (n := 73) (len_c (n := 72) (len_c (n := 71) (len_c (n := 70) (len_c (n := 69) (len_c (n := 68) (len_b (k := 32) (n := 36) h8 (len_b (k := 32) (n := 4) h9 (len_c (n := 3) (len_c (n := 2) (len_c (n := 1) (len_c (n := 0) len_n))))))))))))))
theorem q_spl_c8b32b32c4_0_c8b32b32c4 {a0 a1 a2 a3 a4 a5 a6 a7 a10 a11 a12 a13 : Value} {t8 t9 : List UInt8} {b0 b1 b2 b3 b4 b5 b6 b7 b10 b11 b12 b13 : Value} {s8 s9 : List UInt8} (h8 : t8.length = 32) (h9 : t9.length = 32) (g8 : s8.length = 32) (g9 : s9.length = 32) : spl (a0 :: a1 :: a2 :: a3 :: a4 :: a5 :: a6 :: a7 :: (t8.map u8 ++ ((t9.map u8 ++ (a10 :: a11 :: a12 :: a13 :: []))))) 0 (b0 :: b1 :: b2 :: b3 :: b4 :: b5 :: b6 :: b7 :: (s8.map u8 ++ ((s9.map u8 ++ (b10 :: b11 :: b12 :: b13 :: []))))) = b0 :: b1 :: b2 :: b3 :: b4 :: b5 :: b6 :: b7 :: (s8.map u8 ++ ((s9.map u8 ++ (b10 :: b11 :: b12 :: b13 :: [])))) := (spl_a (z := 76) (len_c (n := 75) (len_c (n := 74) (len_c (n := 73) (len_c (n := 72) (len_c (n := 71) (len_c (n := 70) (len_c (n := 69) (len_c (n := 68) (len_b (k := 32) (n := 36) h8 (len_b (k := 32) (n := 4) h9 (len_c (n := 3) (len_c (n := 2) (len_c (n := 1) (len_c (n := 0) len_n)))))))))))))) (len_c (n := 75) (len_c (n := 74) (len_c (n := 73) (len_c (n := 72) (len_c (n := 71) (len_c (n := 70) (len_c (n := 69) (len_c (n := 68) (len_b (k := 32) (n := 36) g8 (len_b (k := 32) (n := 4) g9 (len_c (n := 3) (len_c (n := 2) (len_c (n := 1) (len_c (n := 0) len_n)))))))))))))))
theorem z_field38_0 : fieldB Try.prog 38 0 = some 0 := by kernel_rfl
theorem z_field36_2 : fieldB Try.prog 36 2 = some 2 := by kernel_rfl
theorem z_agg3 : aggB Try.prog 3 = some false := by kernel_rfl
theorem q_ix_c8b32b32c4_2 {a0 a1 a2 a3 a4 a5 a6 a7 a10 a11 a12 a13 : Value} {t8 t9 : List UInt8} : (a0 :: a1 :: a2 :: a3 :: a4 :: a5 :: a6 :: a7 :: (t8.map u8 ++ ((t9.map u8 ++ (a10 :: a11 :: a12 :: a13 :: [])))))[2]? = some a2 := (ix_c (o := 1) (ix_c (o := 0) ix_0))
theorem z_field38_1 : fieldB Try.prog 38 1 = some 72 := by kernel_rfl
theorem q_ix_c8b32b32c4_72 {a0 a1 a2 a3 a4 a5 a6 a7 a10 a11 a12 a13 : Value} {t8 t9 : List UInt8} (h8 : t8.length = 32) (h9 : t9.length = 32) : (a0 :: a1 :: a2 :: a3 :: a4 :: a5 :: a6 :: a7 :: (t8.map u8 ++ ((t9.map u8 ++ (a10 :: a11 :: a12 :: a13 :: [])))))[72]? = some a10 := (ix_c (o := 71) (ix_c (o := 70) (ix_c (o := 69) (ix_c (o := 68) (ix_c (o := 67) (ix_c (o := 66) (ix_c (o := 65) (ix_c (o := 64) (ix_b (k := 32) (o := 32) h8 rfl (ix_b (k := 32) (o := 0) h9 rfl ix_0))))))))))

set_option maxRecDepth 100000 in
set_option maxHeartbeats 2000000 in
theorem ppoorest (L : List Pool.Wait) (hL : Pool.Wfs L) (hs : L.Pairwise fun a b => a.index < b.index) (size : Int) (bp : Nat) (A : Option Addr) (cc : Nat) (h0 : 0 < L.length) (hlen : L.length ≤ 1000) {w : World} (hp : (It.blk bp 63 [i64 size, (.slice A L.length cc)]).P w) (hR : Rd w A (Pool.wc L)) : Calls Try.prog 27 #[.pointer (some ⟨bp, 0, none⟩)] w (Gives (.int .i64 ((Pool.poorest L L.length : Nat) : Int)) [] w) := by
  have lz32 : (List.replicate 32 (0 : UInt8)).length = 32 := List.length_replicate
  refine enterL (args := [.pointer (some ⟨bp, 0, none⟩)]) Try.func27 rfl rfl (l := []) (Sep.refl _) ?_
  intro a0 H0
  refine wp_seq ?_
  refine reg ?_
  refine plain (y_assign rfl rfl) rfl rfl rfl H0 ?_
  clear H0; intro a1 H1
  refine fin ?_
  refine then_n ?_
  refine wp_seq ?_
  refine reg ?_
  refine plain (y_assign rfl rfl) rfl rfl rfl H1 ?_
  clear H1; intro a2 H2
  refine fin ?_
  refine then_n ?_
  refine wp_seq ?_
  refine wp_seq ?_
  refine reg ?_
  refine plain (y_move rfl rfl) rfl rfl rfl H2 ?_
  clear H2; intro a3 H3
  refine plain (y_nilCheck rfl rfl) rfl rfl rfl H3 ?_
  clear H3; intro a4 H4
  refine plain (y_fieldB rfl z_field63_1 rfl (by first | (simp only [Nat.zero_add, Nat.add_zero, Nat.reduceAdd]; rfl) | rfl)) rfl rfl rfl H4 ?_
  clear H4; intro a5 H5
  refine plain (y_loadO rfl z_agg30 rfl (blk_cell hp (by rfl)) (by simp)) rfl rfl rfl H5 ?_
  clear H5; intro a6 H6
  refine plain (y_len rfl Try.underlying30 rfl) rfl rfl rfl H6 ?_
  clear H6; intro a7 H7
  refine plain (y_move rfl rfl) rfl rfl rfl H7 ?_
  clear H7; intro a8 H8
  refine fin ?_
  refine then_n ?_
  refine wp_block ?_
  refine loop (ι := Nat) (fun k => [(0, .pointer (some ⟨bp, 0, none⟩)), (3, .int .i64 (((Pool.poorest L k) : Nat) : Int)), (9, (.slice A L.length cc)), (10, .int .i64 (L.length : Int)), (11, .int .i64 (k : Int))]) (fun k => []) (fun k => k ≤ L.length) (fun k => L.length - k) (0) (Nat.zero_le _) (H8.weak ⟨rfl, rfl, rfl, rfl, rfl, trivial⟩ rfl) ?_
  clear H8; intro k a9 wx9 hok9 H9
  have hok := hok9
  have hpi := Pool.poorest_in hok h0
  refine wp_seq ?_
  refine reg ?_
  refine plain (y_lss rfl rfl rfl) rfl rfl rfl H9 ?_
  clear H9; intro a10 H10
  refine fin ?_
  refine then_n ?_
  refine wp_seq ?_
  refine cnd H10 rfl (fun hc11 => ?_) (fun hc11 => ?_) -- cond 1
  · skip
    try simp only [decide_eq_true_eq, decide_eq_false_iff_not, Bool.not_eq_true', Bool.not_eq_false', Bool.and_eq_true, Bool.not_eq_true, Bool.not_eq_false] at hc11
    refine wp_skip ?_
    refine then_n ?_
    refine wp_seq ?_
    refine wp_block ?_
    refine wp_seq ?_
    have hkl : k < L.length := by omega
    have hwk := hL.at_ hkl
    have whd := hwk.tx.hand
    have wtg := hwk.tx.tag
    refine reg ?_
    refine plain (y_move rfl rfl) rfl rfl rfl H10 ?_
    clear H10; intro a12 H12
    refine plain (y_ixR rfl Try.underlying30 z_size38 rfl rfl (by omega) (by omega) (rd_old hR (by simp)) (by rw [Pool.wc_len hL]; omega)) rfl rfl rfl H12 ?_
    clear H12; intro a13 H13
    refine plain (y_loadAS rfl z_agg38 z_size38 rfl (rd_old hR (by simp)) (show _ = Pool.Wait.cells (L.getD k Pool.Wait.zero) from Pool.wc_take hL k (by omega)) hwk.len (by decide)) rfl rfl rfl H13 ?_
    clear H13; intro a14 H14
    refine st_alloc rfl z_zeroN38 rfl rfl rfl H14 ?_
    clear H14; intro b15 a15 wx15 H15
    refine plain (y_assign rfl rfl) rfl rfl rfl H15 ?_
    clear H15; intro a16 H16
    refine st_storeN rfl z_size38 rfl rfl (agg_cells _) (by repeat (first | exact Uh | apply Ut)) (q_one_c8b32b32c4 rfl rfl rfl rfl rfl rfl rfl rfl rfl rfl rfl rfl) (q_len_c8b32b32c4 (by assumption) (by assumption)) (q_len_c8b32b32c4 (by assumption) (by assumption)) (q_spl_c8b32b32c4_0_c8b32b32c4 (by assumption) (by assumption) (by assumption) (by assumption)) (by decide) rfl rfl H16 ?_
    clear H16; intro wx17 H17
    refine fin ?_
    refine then_n ?_
    refine wp_seq ?_
    refine qreg (by kernel_rfl) (by kernel_rfl) H17 ?_
    have F18 := H17.fr
    clear H17
    refine qplain (y_fieldB rfl z_field38_0 rfl (by first | (simp only [Nat.zero_add, Nat.add_zero, Nat.reduceAdd]; rfl) | rfl)) rfl rfl rfl F18 ?_
    clear F18; intro a19 H19
    refine qplain (y_fieldB rfl z_field36_2 rfl (by first | (simp only [Nat.zero_add, Nat.add_zero, Nat.reduceAdd]; rfl) | rfl)) rfl rfl rfl H19 ?_
    clear H19; intro a20 H20
    refine qplain (y_loadB rfl z_agg3 rfl (by repeat (first | exact Mh | apply Mt)) q_ix_c8b32b32c4_2) rfl rfl rfl H20 ?_
    clear H20; intro a21 H21
    refine qplain (y_move rfl rfl) rfl rfl rfl H21 ?_
    clear H21; intro a22 H22
    refine qplain (y_nilCheck rfl rfl) rfl rfl rfl H22 ?_
    clear H22; intro a23 H23
    refine qplain (y_fieldB rfl z_field63_1 rfl (by first | (simp only [Nat.zero_add, Nat.add_zero, Nat.reduceAdd]; rfl) | rfl)) rfl rfl rfl H23 ?_
    clear H23; intro a24 H24
    refine qplain (y_loadO rfl z_agg30 rfl (blk_cell hp (by rfl)) (by simp)) rfl rfl rfl H24 ?_
    clear H24; intro a25 H25
    refine qplain (y_move rfl rfl) rfl rfl rfl H25 ?_
    clear H25; intro a26 H26
    refine qplain (y_ixR rfl Try.underlying30 z_size38 rfl rfl (by omega) (by omega) (rd_old hR (by simp)) (by rw [Pool.wc_len hL]; omega)) rfl rfl rfl H26 ?_
    clear H26; intro a27 H27
    refine qplain (y_fieldS rfl z_field38_0 rfl (rd_old hR (by simp)) (by rw [Pool.wc_len hL]; omega)) rfl rfl rfl H27 ?_
    clear H27; intro a28 H28
    refine qplain (y_fieldS rfl z_field36_2 rfl (rd_old hR (by simp)) (by rw [Pool.wc_len hL]; omega)) rfl rfl rfl H28 ?_
    clear H28; intro a29 H29
    refine qplain (y_loadR rfl z_agg3 rfl (rd_old hR (by simp)) (by simp only [Int.toNat_natCast, Nat.zero_add, Nat.add_zero]; exact (show _ = some (i64 (L.getD (Pool.poorest L k) Pool.Wait.zero).tx.fee) from Pool.wc_at (c := 2) hL (by omega) (by omega)))) rfl rfl rfl H29 ?_
    clear H29; intro a30 H30
    refine qplain (y_lss rfl rfl rfl) rfl rfl rfl H30 ?_
    clear H30; intro a31 H31
    refine qplain (y_move rfl rfl) rfl rfl rfl H31 ?_
    clear H31; intro a32 H32
    refine qpart (d := 29) H32 rfl (fun hg33 => ?_) (fun hg33 => ?_)
    · first
      | fail
      | skip
        clear H32; intro H34
        try simp only [decide_eq_true_eq, decide_eq_false_iff_not, Bool.not_eq_true', Bool.not_eq_false', Bool.and_eq_true, Bool.not_eq_true, Bool.not_eq_false] at hg33
        refine qskip rfl rfl rfl H34 ?_
        clear H34; intro a35 H35
        refine qskip rfl rfl rfl H35 ?_
        clear H35; intro a36 H36
        refine qskip rfl rfl rfl H36 ?_
        clear H36; intro a37 H37
        refine qskip rfl rfl rfl H37 ?_
        clear H37; intro a38 H38
        refine qskip rfl rfl rfl H38 ?_
        clear H38; intro a39 H39
        refine qskip rfl rfl rfl H39 ?_
        clear H39; intro a40 H40
        refine qskip rfl rfl rfl H40 ?_
        clear H40; intro a41 H41
        refine qskip rfl rfl rfl H41 ?_
        clear H41; intro a42 H42
        refine qskip rfl rfl rfl H42 ?_
        clear H42; intro a43 H43
        refine qskip rfl rfl rfl H43 ?_
        clear H43; intro a44 H44
        refine qskip rfl rfl rfl H44 ?_
        clear H44; intro a45 H45
        refine qskip rfl rfl rfl H45 ?_
        clear H45; intro a46 H46
        refine qskip rfl rfl rfl H46 ?_
        clear H46; intro a47 H47
        refine qskip rfl rfl rfl H47 ?_
        clear H47; intro a48 H48
        refine qskip rfl rfl rfl H48 ?_
        clear H48; intro a49 H49
        refine qskip rfl rfl rfl H49 ?_
        clear H49; intro a50 H50
        refine qskip rfl rfl rfl H50 ?_
        clear H50; intro a51 H51
        refine qskip rfl rfl rfl H51 ?_
        clear H51; intro a52 H52
        refine qskip rfl rfl rfl H52 ?_
        clear H52; intro a53 H53
        refine qskip rfl rfl rfl H53 ?_
        clear H53; intro a54 H54
        refine qskip rfl rfl rfl H54 ?_
        clear H54; intro a55 H55
        refine qskip rfl rfl rfl H55 ?_
        clear H55; intro a56 H56
        refine qskip rfl rfl rfl H56 ?_
        clear H56; intro a57 H57
        refine qskip rfl rfl rfl H57 ?_
        clear H57; intro a58 H58
        refine qskip rfl rfl rfl H58 ?_
        clear H58; intro a59 H59
        refine qskip rfl rfl rfl H59 ?_
        clear H59; intro a60 H60
        refine qplain (y_pick_t rfl rfl rfl) rfl rfl rfl H60 ?_
        clear H60; intro a61 H61
        refine qfin H61 ?_
        clear H61; intro wx62 H62
        refine then_n ?_
        refine cnd_t H62 rfl ?_
        have isYes := True.intro
        refine reg ?_
        refine plain (y_move rfl rfl) rfl rfl rfl H62 ?_
        clear H62; intro a64 H64
        refine plain (y_assign rfl rfl) rfl rfl rfl H64 ?_
        clear H64; intro a65 H65
        refine fin ?_
        refine inb_n ?_
        refine then_n ?_
        refine reg ?_
        refine plain (y_add rfl rfl rfl (by first | exact w64 (by omega) (by omega) | rfl)) rfl rfl rfl H65 ?_
        clear H65; intro a66 H66
        refine plain (y_move rfl rfl) rfl rfl rfl H66 ?_
        clear H66; intro a67 H67
        refine fin ?_
        refine then_n ?_
        first | (have hz := isYes; refine ⟨k + 1, by omega, by omega, (H67.drop (List.nil_sublist _)).weak ⟨rfl, fi rfl (by rw [Pool.poorest_y (by first | (left; assumption) | (right; constructor <;> assumption))]), rfl, rfl, fi rfl (by omega), trivial⟩ rfl⟩) | (refine ⟨k + 1, by omega, by omega, (H67.drop (List.nil_sublist _)).weak ⟨rfl, fi rfl (by rw [Pool.poorest_n hs hkl (by omega)]), rfl, rfl, fi rfl (by omega), trivial⟩ rfl⟩)
    · first
      | fail
      | skip
        clear H32; intro H68
        try simp only [decide_eq_true_eq, decide_eq_false_iff_not, Bool.not_eq_true', Bool.not_eq_false', Bool.and_eq_true, Bool.not_eq_true, Bool.not_eq_false] at hg33
        refine qplain (y_fieldB rfl z_field38_0 rfl (by first | (simp only [Nat.zero_add, Nat.add_zero, Nat.reduceAdd]; rfl) | rfl)) rfl rfl rfl H68 ?_
        clear H68; intro a69 H69
        refine qplain (y_fieldB rfl z_field36_2 rfl (by first | (simp only [Nat.zero_add, Nat.add_zero, Nat.reduceAdd]; rfl) | rfl)) rfl rfl rfl H69 ?_
        clear H69; intro a70 H70
        refine qplain (y_loadB rfl z_agg3 rfl (by repeat (first | exact Mh | apply Mt)) q_ix_c8b32b32c4_2) rfl rfl rfl H70 ?_
        clear H70; intro a71 H71
        refine qplain (y_move rfl rfl) rfl rfl rfl H71 ?_
        clear H71; intro a72 H72
        refine qplain (y_nilCheck rfl rfl) rfl rfl rfl H72 ?_
        clear H72; intro a73 H73
        refine qplain (y_fieldB rfl z_field63_1 rfl (by first | (simp only [Nat.zero_add, Nat.add_zero, Nat.reduceAdd]; rfl) | rfl)) rfl rfl rfl H73 ?_
        clear H73; intro a74 H74
        refine qplain (y_loadO rfl z_agg30 rfl (blk_cell hp (by rfl)) (by simp)) rfl rfl rfl H74 ?_
        clear H74; intro a75 H75
        refine qplain (y_move rfl rfl) rfl rfl rfl H75 ?_
        clear H75; intro a76 H76
        refine qplain (y_ixR rfl Try.underlying30 z_size38 rfl rfl (by omega) (by omega) (rd_old hR (by simp)) (by rw [Pool.wc_len hL]; omega)) rfl rfl rfl H76 ?_
        clear H76; intro a77 H77
        refine qplain (y_fieldS rfl z_field38_0 rfl (rd_old hR (by simp)) (by rw [Pool.wc_len hL]; omega)) rfl rfl rfl H77 ?_
        clear H77; intro a78 H78
        refine qplain (y_fieldS rfl z_field36_2 rfl (rd_old hR (by simp)) (by rw [Pool.wc_len hL]; omega)) rfl rfl rfl H78 ?_
        clear H78; intro a79 H79
        refine qplain (y_loadR rfl z_agg3 rfl (rd_old hR (by simp)) (by simp only [Int.toNat_natCast, Nat.zero_add, Nat.add_zero]; exact (show _ = some (i64 (L.getD (Pool.poorest L k) Pool.Wait.zero).tx.fee) from Pool.wc_at (c := 2) hL (by omega) (by omega)))) rfl rfl rfl H79 ?_
        clear H79; intro a80 H80
        refine qplain (y_eql rfl rfl rfl) rfl rfl rfl H80 ?_
        clear H80; intro a81 H81
        refine qplain (y_move rfl rfl) rfl rfl rfl H81 ?_
        clear H81; intro a82 H82
        refine qpart (d := 43) H82 rfl (fun hg83 => ?_) (fun hg83 => ?_)
        · first
          | fail
          | skip
            clear H82; intro H84
            try simp only [decide_eq_true_eq, decide_eq_false_iff_not, Bool.not_eq_true', Bool.not_eq_false', Bool.and_eq_true, Bool.not_eq_true, Bool.not_eq_false] at hg83
            refine qplain (y_fieldB rfl z_field38_1 rfl (by first | (simp only [Nat.zero_add, Nat.add_zero, Nat.reduceAdd]; rfl) | rfl)) rfl rfl rfl H84 ?_
            clear H84; intro a85 H85
            refine qplain (y_loadB rfl z_agg3 rfl (by repeat (first | exact Mh | apply Mt)) (q_ix_c8b32b32c4_72 (by assumption) (by assumption))) rfl rfl rfl H85 ?_
            clear H85; intro a86 H86
            refine qplain (y_move rfl rfl) rfl rfl rfl H86 ?_
            clear H86; intro a87 H87
            refine qplain (y_nilCheck rfl rfl) rfl rfl rfl H87 ?_
            clear H87; intro a88 H88
            refine qplain (y_fieldB rfl z_field63_1 rfl (by first | (simp only [Nat.zero_add, Nat.add_zero, Nat.reduceAdd]; rfl) | rfl)) rfl rfl rfl H88 ?_
            clear H88; intro a89 H89
            refine qplain (y_loadO rfl z_agg30 rfl (blk_cell hp (by rfl)) (by simp)) rfl rfl rfl H89 ?_
            clear H89; intro a90 H90
            refine qplain (y_move rfl rfl) rfl rfl rfl H90 ?_
            clear H90; intro a91 H91
            refine qplain (y_ixR rfl Try.underlying30 z_size38 rfl rfl (by omega) (by omega) (rd_old hR (by simp)) (by rw [Pool.wc_len hL]; omega)) rfl rfl rfl H91 ?_
            clear H91; intro a92 H92
            refine qplain (y_fieldS rfl z_field38_1 rfl (rd_old hR (by simp)) (by rw [Pool.wc_len hL]; omega)) rfl rfl rfl H92 ?_
            clear H92; intro a93 H93
            refine qplain (y_loadR rfl z_agg3 rfl (rd_old hR (by simp)) (by simp only [Int.toNat_natCast, Nat.zero_add, Nat.add_zero]; exact (Pool.wc_at (c := 72) hL (by omega) (by omega)).trans (Pool.at_end (hL.at_ (by omega))).1)) rfl rfl rfl H93 ?_
            clear H93; intro a94 H94
            refine qplain (y_gtr rfl rfl rfl) rfl rfl rfl H94 ?_
            clear H94; intro a95 H95
            refine qplain (y_pick_t rfl rfl rfl) rfl rfl rfl H95 ?_
            clear H95; intro a96 H96
            refine qplain (y_pick_f rfl rfl rfl) rfl rfl rfl H96 ?_
            clear H96; intro a97 H97
            refine qfin H97 ?_
            clear H97; intro wx98 H98
            refine then_n ?_
            refine cnd H98 rfl (fun hc99 => ?_) (fun hc99 => ?_) -- cond 3
            · skip
              try simp only [decide_eq_true_eq, decide_eq_false_iff_not, Bool.not_eq_true', Bool.not_eq_false', Bool.and_eq_true, Bool.not_eq_true, Bool.not_eq_false] at hc99
              have isYes := True.intro
              refine reg ?_
              refine plain (y_move rfl rfl) rfl rfl rfl H98 ?_
              clear H98; intro a100 H100
              refine plain (y_assign rfl rfl) rfl rfl rfl H100 ?_
              clear H100; intro a101 H101
              refine fin ?_
              refine inb_n ?_
              refine then_n ?_
              refine reg ?_
              refine plain (y_add rfl rfl rfl (by first | exact w64 (by omega) (by omega) | rfl)) rfl rfl rfl H101 ?_
              clear H101; intro a102 H102
              refine plain (y_move rfl rfl) rfl rfl rfl H102 ?_
              clear H102; intro a103 H103
              refine fin ?_
              refine then_n ?_
              first | (have hz := isYes; refine ⟨k + 1, by omega, by omega, (H103.drop (List.nil_sublist _)).weak ⟨rfl, fi rfl (by rw [Pool.poorest_y (by first | (left; assumption) | (right; constructor <;> assumption))]), rfl, rfl, fi rfl (by omega), trivial⟩ rfl⟩) | (refine ⟨k + 1, by omega, by omega, (H103.drop (List.nil_sublist _)).weak ⟨rfl, fi rfl (by rw [Pool.poorest_n hs hkl (by omega)]), rfl, rfl, fi rfl (by omega), trivial⟩ rfl⟩)
            · skip
              try simp only [decide_eq_true_eq, decide_eq_false_iff_not, Bool.not_eq_true', Bool.not_eq_false', Bool.and_eq_true, Bool.not_eq_true, Bool.not_eq_false] at hc99
              refine wp_skip ?_
              refine inb_n ?_
              refine then_n ?_
              refine reg ?_
              refine plain (y_add rfl rfl rfl (by first | exact w64 (by omega) (by omega) | rfl)) rfl rfl rfl H98 ?_
              clear H98; intro a104 H104
              refine plain (y_move rfl rfl) rfl rfl rfl H104 ?_
              clear H104; intro a105 H105
              refine fin ?_
              refine then_n ?_
              first | (have hz := isYes; refine ⟨k + 1, by omega, by omega, (H105.drop (List.nil_sublist _)).weak ⟨rfl, fi rfl (by rw [Pool.poorest_y (by first | (left; assumption) | (right; constructor <;> assumption))]), rfl, rfl, fi rfl (by omega), trivial⟩ rfl⟩) | (refine ⟨k + 1, by omega, by omega, (H105.drop (List.nil_sublist _)).weak ⟨rfl, fi rfl (by rw [Pool.poorest_n hs hkl (by omega)]), rfl, rfl, fi rfl (by omega), trivial⟩ rfl⟩)
        · first
          | fail
          | skip
            clear H82; intro H106
            try simp only [decide_eq_true_eq, decide_eq_false_iff_not, Bool.not_eq_true', Bool.not_eq_false', Bool.and_eq_true, Bool.not_eq_true, Bool.not_eq_false] at hg83
            refine qskip rfl rfl rfl H106 ?_
            clear H106; intro a107 H107
            refine qskip rfl rfl rfl H107 ?_
            clear H107; intro a108 H108
            refine qskip rfl rfl rfl H108 ?_
            clear H108; intro a109 H109
            refine qskip rfl rfl rfl H109 ?_
            clear H109; intro a110 H110
            refine qskip rfl rfl rfl H110 ?_
            clear H110; intro a111 H111
            refine qskip rfl rfl rfl H111 ?_
            clear H111; intro a112 H112
            refine qskip rfl rfl rfl H112 ?_
            clear H112; intro a113 H113
            refine qskip rfl rfl rfl H113 ?_
            clear H113; intro a114 H114
            refine qskip rfl rfl rfl H114 ?_
            clear H114; intro a115 H115
            refine qskip rfl rfl rfl H115 ?_
            clear H115; intro a116 H116
            refine qskip rfl rfl rfl H116 ?_
            clear H116; intro a117 H117
            refine qplain (y_pick_f rfl rfl rfl) rfl rfl rfl H117 ?_
            clear H117; intro a118 H118
            refine qplain (y_pick_f rfl rfl rfl) rfl rfl rfl H118 ?_
            clear H118; intro a119 H119
            refine qfin H119 ?_
            clear H119; intro wx120 H120
            refine then_n ?_
            refine cnd_f H120 rfl ?_
            refine wp_skip ?_
            refine inb_n ?_
            refine then_n ?_
            refine reg ?_
            refine plain (y_add rfl rfl rfl (by first | exact w64 (by omega) (by omega) | rfl)) rfl rfl rfl H120 ?_
            clear H120; intro a122 H122
            refine plain (y_move rfl rfl) rfl rfl rfl H122 ?_
            clear H122; intro a123 H123
            refine fin ?_
            refine then_n ?_
            first | (have hz := isYes; refine ⟨k + 1, by omega, by omega, (H123.drop (List.nil_sublist _)).weak ⟨rfl, fi rfl (by rw [Pool.poorest_y (by first | (left; assumption) | (right; constructor <;> assumption))]), rfl, rfl, fi rfl (by omega), trivial⟩ rfl⟩) | (refine ⟨k + 1, by omega, by omega, (H123.drop (List.nil_sublist _)).weak ⟨rfl, fi rfl (by rw [Pool.poorest_n hs hkl (by omega)]), rfl, rfl, fi rfl (by omega), trivial⟩ rfl⟩)
  · skip
    try simp only [decide_eq_true_eq, decide_eq_false_iff_not, Bool.not_eq_true', Bool.not_eq_false', Bool.and_eq_true, Bool.not_eq_true, Bool.not_eq_false] at hc11
    refine wp_exit ?_
    refine then_x ?_
    refine then_x ?_
    refine inb_hit ?_
    refine then_n ?_
    refine wp_seq ?_
    refine reg ?_
    refine plain (y_move rfl rfl) rfl rfl rfl H10 ?_
    clear H10; intro a124 H124
    refine plain (y_assign rfl rfl) rfl rfl rfl H124 ?_
    clear H124; intro a125 H125
    refine fin ?_
    refine then_n ?_
    refine wp_ret ?_
    -- return 1
    refine ret1 rfl H125 rfl ?_
    refine ⟨_, [], rfl, ⟨?_, rfl⟩, H125.sep.sub (List.nil_sublist _)⟩
    rw [show L.length = k by omega]

end Go.Proofs.Ytbdkgmkaakoigaa.P_Pst
