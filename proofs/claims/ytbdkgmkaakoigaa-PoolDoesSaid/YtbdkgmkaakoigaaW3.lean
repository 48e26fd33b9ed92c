/- Part of a proof about given Go functions: contracts of functions, or plain laws. -/
import Derived.Test.YtbdkgmkaakoigaaS6
import Derived.Test.YtbdkgmkaakoigaaS4
import Derived.Test.YtbdkgmkaakoigaaS5
import Derived.Test.YtbdkgmkaakoigaaProg
set_option linter.unusedVariables false
set_option linter.unusedSimpArgs false
namespace Go.Proofs.Ytbdkgmkaakoigaa.P_Tk
open Go.Sx Go.RowKit

theorem z_zeroN38 : zeroL Try.prog 38 = some ((.int .i64 0 :: (.int .i64 0 :: (.int .i64 0 :: (.int .i64 0 :: (.string ⟨#[]⟩ :: (.bool false :: (.int .i64 0 :: (.int .i64 0 :: ((List.replicate 32 (0 : UInt8)).map u8 ++ ((List.replicate 32 (0 : UInt8)).map u8 ++ (.int .i64 0 :: (.int .i64 0 :: (.int .i64 0 :: (.int .i64 0 :: []))))))))))))))) := by kernel_rfl
theorem z_field63_1 : fieldB Try.prog 63 1 = some 1 := by kernel_rfl
theorem z_agg30 : aggB Try.prog 30 = some false := by kernel_rfl
theorem q_ix_c2_1 {a0 a1 : Value} : (a0 :: a1 :: [])[1]? = some a1 := (ix_c (o := 0) ix_0)
theorem z_size38 : sizeB Try.prog 38 = some 76 := by kernel_rfl
theorem z_agg38 : aggB Try.prog 38 = some true := by kernel_rfl
theorem q_one_c8b32b32c4 {a0 a1 a2 a3 a4 a5 a6 a7 a10 a11 a12 a13 : Value} {t8 t9 : List UInt8} (o0 : a0.oneCell' = true) (o1 : a1.oneCell' = true) (o2 : a2.oneCell' = true) (o3 : a3.oneCell' = true) (o4 : a4.oneCell' = true) (o5 : a5.oneCell' = true) (o6 : a6.oneCell' = true) (o7 : a7.oneCell' = true) (o10 : a10.oneCell' = true) (o11 : a11.oneCell' = true) (o12 : a12.oneCell' = true) (o13 : a13.oneCell' = true) : (a0 :: a1 :: a2 :: a3 :: a4 :: a5 :: a6 :: a7 :: (t8.map u8 ++ ((t9.map u8 ++ (a10 :: a11 :: a12 :: a13 :: []))))).all (·.oneCell') = true := (one_c o0 (one_c o1 (one_c o2 (one_c o3 (one_c o4 (one_c o5 (one_c o6 (one_c o7 (one_b (one_b (one_c o10 (one_c o11 (one_c o12 (one_c o13 one_n))))))))))))))
theorem q_len_c8b32b32c4 {a0 a1 a2 a3 a4 a5 a6 a7 a10 a11 a12 a13 : Value} {t8 t9 : List UInt8} (h8 : t8.length = 32) (h9 : t9.length = 32) : (a0 :: a1 :: a2 :: a3 :: a4 :: a5 :: a6 :: a7 :: (t8.map u8 ++ ((t9.map u8 ++ (a10 :: a11 :: a12 :: a13 :: []))))).length = 76 := (len_c (n := 75) (len_c (n := 74) (len_c (n := 73) (len_c (n := 72) (len_c (n := 71) (len_c (n := 70) (len_c (n := 69) (len_c (n := 68) (len_b (k := 32) (n := 36) h8 (len_b (k := 32) (n := 4) h9 (len_c (n := 3) (len_c (n := 2) (len_c (n := 1) (len_c (n := 0) len_n))))))))))))))
theorem q_spl_c8b32b32c4_0_c8b32b32c4 {a0 a1 a2 a3 a4 a5 a6 a7 a10 a11 a12 a13 : Value} {t8 t9 : List UInt8} {b0 b1 b2 b3 b4 b5 b6 b7 b10 b11 b12 b13 : Value} {s8 s9 : List UInt8} (h8 : t8.length = 32) (h9 : t9.length = 32) (g8 : s8.length = 32) (g9 : s9.length = 32) : spl (a0 :: a1 :: a2 :: a3 :: a4 :: a5 :: a6 :: a7 :: (t8.map u8 ++ ((t9.map u8 ++ (a10 :: a11 :: a12 :: a13 :: []))))) 0 (b0 :: b1 :: b2 :: b3 :: b4 :: b5 :: b6 :: b7 :: (s8.map u8 ++ ((s9.map u8 ++ (b10 :: b11 :: b12 :: b13 :: []))))) = b0 :: b1 :: b2 :: b3 :: b4 :: b5 :: b6 :: b7 :: (s8.map u8 ++ ((s9.map u8 ++ (b10 :: b11 :: b12 :: b13 :: [])))) := (spl_a (z := 76) (len_c (n := 75) (len_c (n := 74) (len_c (n := 73) (len_c (n := 72) (len_c (n := 71) (len_c (n := 70) (len_c (n := 69) (len_c (n := 68) (len_b (k := 32) (n := 36) h8 (len_b (k := 32) (n := 4) h9 (len_c (n := 3) (len_c (n := 2) (len_c (n := 1) (len_c (n := 0) len_n)))))))))))))) (len_c (n := 75) (len_c (n := 74) (len_c (n := 73) (len_c (n := 72) (len_c (n := 71) (len_c (n := 70) (len_c (n := 69) (len_c (n := 68) (len_b (k := 32) (n := 36) g8 (len_b (k := 32) (n := 4) g9 (len_c (n := 3) (len_c (n := 2) (len_c (n := 1) (len_c (n := 0) len_n)))))))))))))))
theorem z_zero38 : zeroL Try.prog 38 = some ([.int .i64 0, .int .i64 0, .int .i64 0, .int .i64 0, .string ⟨#[]⟩, .bool false, .int .i64 0, .int .i64 0, .int .u8 0, .int .u8 0, .int .u8 0, .int .u8 0, .int .u8 0, .int .u8 0, .int .u8 0, .int .u8 0, .int .u8 0, .int .u8 0, .int .u8 0, .int .u8 0, .int .u8 0, .int .u8 0, .int .u8 0, .int .u8 0, .int .u8 0, .int .u8 0, .int .u8 0, .int .u8 0, .int .u8 0, .int .u8 0, .int .u8 0, .int .u8 0, .int .u8 0, .int .u8 0, .int .u8 0, .int .u8 0, .int .u8 0, .int .u8 0, .int .u8 0, .int .u8 0, .int .u8 0, .int .u8 0, .int .u8 0, .int .u8 0, .int .u8 0, .int .u8 0, .int .u8 0, .int .u8 0, .int .u8 0, .int .u8 0, .int .u8 0, .int .u8 0, .int .u8 0, .int .u8 0, .int .u8 0, .int .u8 0, .int .u8 0, .int .u8 0, .int .u8 0, .int .u8 0, .int .u8 0, .int .u8 0, .int .u8 0, .int .u8 0, .int .u8 0, .int .u8 0, .int .u8 0, .int .u8 0, .int .u8 0, .int .u8 0, .int .u8 0, .int .u8 0, .int .i64 0, .int .i64 0, .int .i64 0, .int .i64 0]) := by kernel_rfl
theorem z_slice30 : sliceB Try.prog 30 = some (38, 76, 168) := by kernel_rfl
theorem z_notint30 : notIntB Try.prog 30 = true := by kernel_rfl
theorem z_size30 : sizeB Try.prog 30 = some 1 := by kernel_rfl
theorem q_len_c2 {a0 a1 : Value} : (a0 :: a1 :: []).length = 2 := (len_c (n := 1) (len_c (n := 0) len_n))
theorem q_set_c2_1 {a0 a1 : Value} {v : Value} : (a0 :: a1 :: []).set 1 v = a0 :: v :: [] := (set_c (o := 0) set_0)
theorem q_ld_c8b32b32c4_0_76 {a0 a1 a2 a3 a4 a5 a6 a7 a10 a11 a12 a13 : Value} {t8 t9 : List UInt8} (h8 : t8.length = 32) (h9 : t9.length = 32) : ((a0 :: a1 :: a2 :: a3 :: a4 :: a5 :: a6 :: a7 :: (t8.map u8 ++ ((t9.map u8 ++ (a10 :: a11 :: a12 :: a13 :: []))))).drop 0).take 76 = a0 :: a1 :: a2 :: a3 :: a4 :: a5 :: a6 :: a7 :: (t8.map u8 ++ ((t9.map u8 ++ (a10 :: a11 :: a12 :: a13 :: [])))) := (ld_a (len_c (n := 75) (len_c (n := 74) (len_c (n := 73) (len_c (n := 72) (len_c (n := 71) (len_c (n := 70) (len_c (n := 69) (len_c (n := 68) (len_b (k := 32) (n := 36) h8 (len_b (k := 32) (n := 4) h9 (len_c (n := 3) (len_c (n := 2) (len_c (n := 1) (len_c (n := 0) len_n)))))))))))))))

set_option maxRecDepth 100000 in
set_option maxHeartbeats 4000000 in
theorem ptake (L : List Pool.Wait) (hL : Pool.Wfs L) (size : Int) (bp : Nat) (v : Value) (i : Nat) (hi : i < L.length) (hlen : L.length ≤ 1000) {w : World} (hs : Sep (fps [It.row 38 76 v L.length (Pool.wc L), It.blk bp 63 [i64 size, v]]) w w [It.row 38 76 v L.length (Pool.wc L), It.blk bp 63 [i64 size, v]]) : Calls Try.prog 28 #[.pointer (some ⟨bp, 0, none⟩), .int .i64 (i : Int)] w (Post (fps [It.row 38 76 v L.length (Pool.wc L), It.blk bp 63 [i64 size, v]]) w fun u l' => u = .agg (Pool.Wait.cells (L.getD i Pool.Wait.zero)).toArray ∧ ∃ v', l' = [It.row 38 76 v' (L.eraseIdx i).length (Pool.wc (L.eraseIdx i)), It.blk bp 63 [i64 size, v']]) := by
  obtain ⟨A, cc, rfl, hRx, hmx⟩ := row_shape (v := v) hs (by repeat (first | exact Mh | apply Mt))
  have hcap := row_cap (A := A) (c := cc) hs (by repeat (first | exact Mh | apply Mt))
  have hwi := hL.at_ hi
  have whd := hwi.tx.hand
  have wtg := hwi.tx.tag
  have lz32 : (List.replicate 32 (0 : UInt8)).length = 32 := List.length_replicate
  refine enterL (args := [.pointer (some ⟨bp, 0, none⟩), .int .i64 (i : Int)]) Try.func28 rfl rfl (l := [It.row 38 76 (.slice A L.length cc) L.length (Pool.wc L), It.blk bp 63 [i64 size, (.slice A L.length cc)]]) hs ?_
  intro a0 H0
  refine wp_seq ?_
  refine reg ?_
  refine st_alloc rfl z_zeroN38 rfl rfl rfl H0 ?_
  clear H0; intro b1 a1 wx1 H1
  refine fin ?_
  refine then_n ?_
  refine wp_seq ?_
  refine reg ?_
  refine plain (y_move rfl rfl) rfl rfl rfl H1 ?_
  clear H1; intro a2 H2
  refine plain (y_nilCheck rfl rfl) rfl rfl rfl H2 ?_
  clear H2; intro a3 H3
  refine plain (y_fieldB rfl z_field63_1 rfl (by first | (simp only [Nat.zero_add, Nat.add_zero, Nat.reduceAdd]; rfl) | rfl)) rfl rfl rfl H3 ?_
  clear H3; intro a4 H4
  refine plain (y_loadB rfl z_agg30 rfl (by repeat (first | exact Mh | apply Mt)) q_ix_c2_1) rfl rfl rfl H4 ?_
  clear H4; intro a5 H5
  refine plain (y_move rfl rfl) rfl rfl rfl H5 ?_
  clear H5; intro a6 H6
  refine plain (y_ixR rfl Try.underlying30 z_size38 rfl rfl (by omega) (by omega) (rd_row (by repeat (first | exact Mh | apply Mt))) (by rw [Pool.wc_len hL]; omega)) rfl rfl rfl H6 ?_
  clear H6; intro a7 H7
  refine plain (y_loadAS rfl z_agg38 z_size38 rfl (rd_row (by repeat (first | exact Mh | apply Mt))) (show _ = Pool.Wait.cells (L.getD i Pool.Wait.zero) from Pool.wc_take hL i hi) hwi.len (by decide)) rfl rfl rfl H7 ?_
  clear H7; intro a8 H8
  refine st_alloc rfl z_zeroN38 rfl rfl rfl H8 ?_
  clear H8; intro b9 a9 wx9 H9
  refine st_storeN rfl z_size38 rfl rfl (agg_cells _) (by repeat (first | exact Uh | apply Ut)) (q_one_c8b32b32c4 rfl rfl rfl rfl rfl rfl rfl rfl rfl rfl rfl rfl) (q_len_c8b32b32c4 (by assumption) (by assumption)) (q_len_c8b32b32c4 (by assumption) (by assumption)) (q_spl_c8b32b32c4_0_c8b32b32c4 (by assumption) (by assumption) (by assumption) (by assumption)) (by decide) rfl rfl H9 ?_
  clear H9; intro wx10 H10
  refine fin ?_
  refine then_n ?_
  refine wp_seq ?_
  refine hreg [] (fun _ h => (h.sub (by first | exact S0 | exact S1 | repeat (first | exact S1 | exact S0 | apply S2 | apply S3)))) (by kernel_rfl) H10 ?_
  clear H10; intro wx11 H11
  refine htake 0 rfl (by kernel_rfl) (y_move rfl rfl) rfl rfl rfl (fun _ h => (h.sub (by first | exact S0 | exact S1 | repeat (first | exact S1 | exact S0 | apply S2 | apply S3)))) H11 ?_
  clear H11; intro a12 H12
  refine htake 2 rfl (by kernel_rfl) (y_move rfl rfl) rfl rfl rfl (fun _ h => (h.sub (by first | exact S0 | exact S1 | repeat (first | exact S1 | exact S0 | apply S2 | apply S3)))) H12 ?_
  clear H12; intro a13 H13
  refine htake 3 rfl (by kernel_rfl) (y_nilCheck rfl rfl) rfl rfl rfl (fun _ h => (h.sub (by first | exact S0 | exact S1 | repeat (first | exact S1 | exact S0 | apply S2 | apply S3)))) H13 ?_
  clear H13; intro a14 H14
  refine htake 4 rfl (by kernel_rfl) (y_fieldB rfl z_field63_1 rfl (by first | (simp only [Nat.zero_add, Nat.add_zero, Nat.reduceAdd]; rfl) | rfl)) rfl rfl rfl (fun _ h => (h.sub (by first | exact S0 | exact S1 | repeat (first | exact S1 | exact S0 | apply S2 | apply S3)))) H14 ?_
  clear H14; intro a15 H15
  refine htake 6 rfl (by kernel_rfl) (y_move rfl rfl) rfl rfl rfl (fun _ h => (h.sub (by first | exact S0 | exact S1 | repeat (first | exact S1 | exact S0 | apply S2 | apply S3)))) H15 ?_
  clear H15; intro a16 H16
  refine htake 9 rfl (by kernel_rfl) (y_move rfl rfl) rfl rfl rfl (fun _ h => (h.sub (by first | exact S0 | exact S1 | repeat (first | exact S1 | exact S0 | apply S2 | apply S3)))) H16 ?_
  clear H16; intro a17 H17
  refine htake 10 rfl (by kernel_rfl) (y_nilCheck rfl rfl) rfl rfl rfl (fun _ h => (h.sub (by first | exact S0 | exact S1 | repeat (first | exact S1 | exact S0 | apply S2 | apply S3)))) H17 ?_
  clear H17; intro a18 H18
  refine htake 11 rfl (by kernel_rfl) (y_fieldB rfl z_field63_1 rfl (by first | (simp only [Nat.zero_add, Nat.add_zero, Nat.reduceAdd]; rfl) | rfl)) rfl rfl rfl (fun _ h => (h.sub (by first | exact S0 | exact S1 | repeat (first | exact S1 | exact S0 | apply S2 | apply S3)))) H18 ?_
  clear H18; intro a19 H19
  refine htake 13 rfl (by kernel_rfl) (y_move rfl rfl) rfl rfl rfl (fun _ h => (h.sub (by first | exact S0 | exact S1 | repeat (first | exact S1 | exact S0 | apply S2 | apply S3)))) H19 ?_
  clear H19; intro a20 H20
  refine htake 14 rfl (by kernel_rfl) (y_add rfl rfl rfl (by first | exact w64 (by omega) (by omega) | rfl)) rfl rfl rfl (fun _ h => (h.sub (by first | exact S0 | exact S1 | repeat (first | exact S1 | exact S0 | apply S2 | apply S3)))) H20 ?_
  clear H20; intro a21 H21
  refine hgo3 1 5 12 rfl rfl rfl (by kernel_rfl) ?_ ?_ ?_
  · skip
    refine st_buildSlice rfl Try.underlying30 z_size38 z_zero38 rfl rfl rfl (show _ = some ([] : List Value) from rfl) rfl rfl rfl H21 ?_
    clear H21; intro b22 a22 wx22 H22
    refine hfin (H22.sep.sub (by first | exact S0 | exact S1 | repeat (first | exact S1 | exact S0 | apply S2 | apply S3))) ?_
    refine hgo2 5 12 rfl rfl (by kernel_rfl) ?_ ?_
    · skip
      refine plain (y_loadB rfl z_agg30 rfl (by repeat (first | exact Mh | apply Mt)) q_ix_c2_1) rfl rfl rfl H22 ?_
      clear H22; intro a23 H23
      refine hfin (H23.sep.sub (by first | exact S0 | exact S1 | repeat (first | exact S1 | exact S0 | apply S2 | apply S3))) ?_
      refine htake 7 rfl (by kernel_rfl) (y_slS_hi rfl Try.underlying30 z_size38 rfl rfl (by omega) (by omega) (by omega)) rfl rfl rfl (fun _ h => (h.sub (by first | exact S0 | exact S1 | repeat (first | exact S1 | exact S0 | apply S2 | apply S3)))) H23 ?_
      clear H23; intro a24 H24
      refine hgo2 8 12 rfl rfl (by kernel_rfl) ?_ ?_
      · skip
        replace H24 := H24.asRow (b := b22) (size := 76) (m := 0) (by repeat (first | exact Uh | apply Ut)) rfl (by unfold maxLen; omega)
        refine st_append rfl z_slice30 z_notint30 rfl rfl (fun _ => (by repeat (first | exact Uh | apply Ut))) (fun w hs => Src.slice ((Pool.rdp hL (rd_row (by repeat (first | exact Mh | apply Mt))) ((i : Int).toNat)) w hs) (by rw [Pool.wc_len (hL.take _), List.length_take, Nat.min_eq_left (show (i : Int).toNat ≤ L.length by omega)]) (Pool.wc_cell _)) (by unfold maxLen at *; first | omega | (simp only [List.length_cons, List.length_nil, List.length_append, List.length_map]; omega)) (by omega) rfl rfl rfl H24 ?_
        clear H24; intro v25 a25 wx25 hnil25 H25
        obtain ⟨Ar25, cr25, hvr25, hRr25, hmr25⟩ := row_shape (v := v25) H25.sep (by repeat (first | exact Mh | apply Mt))
        subst hvr25
        refine hfin (H25.sep.sub (by first | exact S0 | exact S1 | repeat (first | exact S1 | exact S0 | apply S2 | apply S3))) ?_
        refine hgo 12 rfl (by kernel_rfl) ?_
        refine plain (y_loadB rfl z_agg30 rfl (by repeat (first | exact Mh | apply Mt)) q_ix_c2_1) rfl rfl rfl H25 ?_
        clear H25; intro a26 H26
        refine hfin (H26.sep.sub (by first | exact S0 | exact S1 | repeat (first | exact S1 | exact S0 | apply S2 | apply S3))) ?_
        refine htake 15 rfl (by kernel_rfl) (y_slS_lo rfl Try.underlying30 z_size38 rfl rfl (by omega) (by omega)) rfl rfl rfl (fun _ h => (h.sub (by first | exact S0 | exact S1 | repeat (first | exact S1 | exact S0 | apply S2 | apply S3)))) H26 ?_
        clear H26; intro a27 H27
        refine hgo 16 rfl (by kernel_rfl) ?_
        refine st_append rfl z_slice30 z_notint30 rfl rfl (fun _ => (by repeat (first | exact Uh | apply Ut))) (fun w hs => Src.slice ((Pool.rds hL (rd_row (by repeat (first | exact Mh | apply Mt))) (((i : Int) + 1).toNat) cc hcap) w hs) (by rw [Pool.wc_len (hL.drop _), List.length_drop]) (Pool.wc_cell _)) (by unfold maxLen at *; first | omega | (simp only [List.length_cons, List.length_nil, List.length_append, List.length_map]; omega)) (by omega) rfl rfl rfl H27 ?_
        clear H27; intro v28 a28 wx28 hnil28 H28
        obtain ⟨ArT, crT, hvrT, hRrT, hmrT⟩ := row_shape (v := v28) H28.sep (by repeat (first | exact Mh | apply Mt))
        subst hvrT
        refine hfin (H28.sep.sub (by first | exact S0 | exact S1 | repeat (first | exact S1 | exact S0 | apply S2 | apply S3))) ?_
        refine htake 17 rfl (by kernel_rfl) (y_nilCheck rfl rfl) rfl rfl rfl (fun _ h => (h.sub (by first | exact S0 | exact S1 | repeat (first | exact S1 | exact S0 | apply S2 | apply S3)))) H28 ?_
        clear H28; intro a29 H29
        refine htake 18 rfl (by kernel_rfl) (y_fieldB rfl z_field63_1 rfl (by first | (simp only [Nat.zero_add, Nat.add_zero, Nat.reduceAdd]; rfl) | rfl)) rfl rfl rfl (fun _ h => (h.sub (by first | exact S0 | exact S1 | repeat (first | exact S1 | exact S0 | apply S2 | apply S3)))) H29 ?_
        clear H29; intro a30 H30
        refine hgo 19 rfl (by kernel_rfl) ?_
        refine st_store1N rfl z_size30 rfl rfl rfl (by repeat (first | exact Uh | apply Ut)) q_len_c2 q_set_c2_1 (by decide) rfl rfl H30 ?_
        clear H30; intro wx31 H31
        refine hfin (H31.sep.sub (by first | exact S0 | exact S1 | repeat (first | exact S1 | exact S0 | apply S2 | apply S3))) ?_
        refine hdone (by kernel_rfl) ?_
        refine then_n ?_
        refine wp_seq ?_
        refine reg ?_
        refine plain (y_loadAB rfl z_agg38 z_size38 rfl (by repeat (first | exact Mh | apply Mt)) (q_ld_c8b32b32c4_0_76 (by assumption) (by assumption)) (q_len_c8b32b32c4 (by assumption) (by assumption))) rfl rfl rfl H31 ?_
        clear H31; intro a32 H32
        refine st_storeN rfl z_size38 rfl rfl (agg_cells _) (by repeat (first | exact Uh | apply Ut)) (q_one_c8b32b32c4 rfl rfl rfl rfl rfl rfl rfl rfl rfl rfl rfl rfl) (q_len_c8b32b32c4 (by assumption) (by assumption)) (q_len_c8b32b32c4 (by assumption) (by assumption)) (q_spl_c8b32b32c4_0_c8b32b32c4 (by assumption) (by assumption) (by assumption) (by assumption)) (by decide) rfl rfl H32 ?_
        clear H32; intro wx33 H33
        refine fin ?_
        refine then_n ?_
        refine wp_ret ?_
        -- return 1
        refine retc rfl H33 rfl z_agg38 z_size38 (by repeat (first | exact Mh | apply Mt)) (q_len_c8b32b32c4 (by assumption) (by assumption)) ?_
        have hsx := H33.sep.sub (List.Sublist.cons_cons _ (List.Sublist.cons _ (List.Sublist.cons _ (List.Sublist.cons _ (List.Sublist.refl _)))))
        simp only [List.nil_append, Int.toNat_natCast, Nat.zero_add, Pool.cut_erase, Pool.len_erase hi] at hsx
        exact ⟨_, _, rfl, ⟨rfl, _, rfl⟩, hsx⟩
      · skip
        refine plain (y_loadB rfl z_agg30 rfl (by repeat (first | exact Mh | apply Mt)) q_ix_c2_1) rfl rfl rfl H24 ?_
        clear H24; intro a34 H34
        refine hfin (H34.sep.sub (by first | exact S0 | exact S1 | repeat (first | exact S1 | exact S0 | apply S2 | apply S3))) ?_
        refine htake 15 rfl (by kernel_rfl) (y_slS_lo rfl Try.underlying30 z_size38 rfl rfl (by omega) (by omega)) rfl rfl rfl (fun _ h => (h.sub (by first | exact S0 | exact S1 | repeat (first | exact S1 | exact S0 | apply S2 | apply S3)))) H34 ?_
        clear H34; intro a35 H35
        refine hgo 8 rfl (by kernel_rfl) ?_
        replace H35 := H35.asRow (b := b22) (size := 76) (m := 0) (by repeat (first | exact Uh | apply Ut)) rfl (by unfold maxLen; omega)
        refine st_append rfl z_slice30 z_notint30 rfl rfl (fun _ => (by repeat (first | exact Uh | apply Ut))) (fun w hs => Src.slice ((Pool.rdp hL (rd_row (by repeat (first | exact Mh | apply Mt))) ((i : Int).toNat)) w hs) (by rw [Pool.wc_len (hL.take _), List.length_take, Nat.min_eq_left (show (i : Int).toNat ≤ L.length by omega)]) (Pool.wc_cell _)) (by unfold maxLen at *; first | omega | (simp only [List.length_cons, List.length_nil, List.length_append, List.length_map]; omega)) (by omega) rfl rfl rfl H35 ?_
        clear H35; intro v36 a36 wx36 hnil36 H36
        obtain ⟨Ar36, cr36, hvr36, hRr36, hmr36⟩ := row_shape (v := v36) H36.sep (by repeat (first | exact Mh | apply Mt))
        subst hvr36
        refine hfin (H36.sep.sub (by first | exact S0 | exact S1 | repeat (first | exact S1 | exact S0 | apply S2 | apply S3))) ?_
        refine hgo 16 rfl (by kernel_rfl) ?_
        refine st_append rfl z_slice30 z_notint30 rfl rfl (fun _ => (by repeat (first | exact Uh | apply Ut))) (fun w hs => Src.slice ((Pool.rds hL (rd_row (by repeat (first | exact Mh | apply Mt))) (((i : Int) + 1).toNat) cc hcap) w hs) (by rw [Pool.wc_len (hL.drop _), List.length_drop]) (Pool.wc_cell _)) (by unfold maxLen at *; first | omega | (simp only [List.length_cons, List.length_nil, List.length_append, List.length_map]; omega)) (by omega) rfl rfl rfl H36 ?_
        clear H36; intro v37 a37 wx37 hnil37 H37
        obtain ⟨ArT, crT, hvrT, hRrT, hmrT⟩ := row_shape (v := v37) H37.sep (by repeat (first | exact Mh | apply Mt))
        subst hvrT
        refine hfin (H37.sep.sub (by first | exact S0 | exact S1 | repeat (first | exact S1 | exact S0 | apply S2 | apply S3))) ?_
        refine htake 17 rfl (by kernel_rfl) (y_nilCheck rfl rfl) rfl rfl rfl (fun _ h => (h.sub (by first | exact S0 | exact S1 | repeat (first | exact S1 | exact S0 | apply S2 | apply S3)))) H37 ?_
        clear H37; intro a38 H38
        refine htake 18 rfl (by kernel_rfl) (y_fieldB rfl z_field63_1 rfl (by first | (simp only [Nat.zero_add, Nat.add_zero, Nat.reduceAdd]; rfl) | rfl)) rfl rfl rfl (fun _ h => (h.sub (by first | exact S0 | exact S1 | repeat (first | exact S1 | exact S0 | apply S2 | apply S3)))) H38 ?_
        clear H38; intro a39 H39
        refine hgo 19 rfl (by kernel_rfl) ?_
        refine st_store1N rfl z_size30 rfl rfl rfl (by repeat (first | exact Uh | apply Ut)) q_len_c2 q_set_c2_1 (by decide) rfl rfl H39 ?_
        clear H39; intro wx40 H40
        refine hfin (H40.sep.sub (by first | exact S0 | exact S1 | repeat (first | exact S1 | exact S0 | apply S2 | apply S3))) ?_
        refine hdone (by kernel_rfl) ?_
        refine then_n ?_
        refine wp_seq ?_
        refine reg ?_
        refine plain (y_loadAB rfl z_agg38 z_size38 rfl (by repeat (first | exact Mh | apply Mt)) (q_ld_c8b32b32c4_0_76 (by assumption) (by assumption)) (q_len_c8b32b32c4 (by assumption) (by assumption))) rfl rfl rfl H40 ?_
        clear H40; intro a41 H41
        refine st_storeN rfl z_size38 rfl rfl (agg_cells _) (by repeat (first | exact Uh | apply Ut)) (q_one_c8b32b32c4 rfl rfl rfl rfl rfl rfl rfl rfl rfl rfl rfl rfl) (q_len_c8b32b32c4 (by assumption) (by assumption)) (q_len_c8b32b32c4 (by assumption) (by assumption)) (q_spl_c8b32b32c4_0_c8b32b32c4 (by assumption) (by assumption) (by assumption) (by assumption)) (by decide) rfl rfl H41 ?_
        clear H41; intro wx42 H42
        refine fin ?_
        refine then_n ?_
        refine wp_ret ?_
        -- return 2
        refine retc rfl H42 rfl z_agg38 z_size38 (by repeat (first | exact Mh | apply Mt)) (q_len_c8b32b32c4 (by assumption) (by assumption)) ?_
        have hsx := H42.sep.sub (List.Sublist.cons_cons _ (List.Sublist.cons _ (List.Sublist.cons _ (List.Sublist.cons _ (List.Sublist.refl _)))))
        simp only [List.nil_append, Int.toNat_natCast, Nat.zero_add, Pool.cut_erase, Pool.len_erase hi] at hsx
        exact ⟨_, _, rfl, ⟨rfl, _, rfl⟩, hsx⟩
    · skip
      refine plain (y_loadB rfl z_agg30 rfl (by repeat (first | exact Mh | apply Mt)) q_ix_c2_1) rfl rfl rfl H22 ?_
      clear H22; intro a43 H43
      refine hfin (H43.sep.sub (by first | exact S0 | exact S1 | repeat (first | exact S1 | exact S0 | apply S2 | apply S3))) ?_
      refine htake 15 rfl (by kernel_rfl) (y_slS_lo rfl Try.underlying30 z_size38 rfl rfl (by omega) (by omega)) rfl rfl rfl (fun _ h => (h.sub (by first | exact S0 | exact S1 | repeat (first | exact S1 | exact S0 | apply S2 | apply S3)))) H43 ?_
      clear H43; intro a44 H44
      refine hgo 5 rfl (by kernel_rfl) ?_
      refine plain (y_loadB rfl z_agg30 rfl (by repeat (first | exact Mh | apply Mt)) q_ix_c2_1) rfl rfl rfl H44 ?_
      clear H44; intro a45 H45
      refine hfin (H45.sep.sub (by first | exact S0 | exact S1 | repeat (first | exact S1 | exact S0 | apply S2 | apply S3))) ?_
      refine htake 7 rfl (by kernel_rfl) (y_slS_hi rfl Try.underlying30 z_size38 rfl rfl (by omega) (by omega) (by omega)) rfl rfl rfl (fun _ h => (h.sub (by first | exact S0 | exact S1 | repeat (first | exact S1 | exact S0 | apply S2 | apply S3)))) H45 ?_
      clear H45; intro a46 H46
      refine hgo 8 rfl (by kernel_rfl) ?_
      replace H46 := H46.asRow (b := b22) (size := 76) (m := 0) (by repeat (first | exact Uh | apply Ut)) rfl (by unfold maxLen; omega)
      refine st_append rfl z_slice30 z_notint30 rfl rfl (fun _ => (by repeat (first | exact Uh | apply Ut))) (fun w hs => Src.slice ((Pool.rdp hL (rd_row (by repeat (first | exact Mh | apply Mt))) ((i : Int).toNat)) w hs) (by rw [Pool.wc_len (hL.take _), List.length_take, Nat.min_eq_left (show (i : Int).toNat ≤ L.length by omega)]) (Pool.wc_cell _)) (by unfold maxLen at *; first | omega | (simp only [List.length_cons, List.length_nil, List.length_append, List.length_map]; omega)) (by omega) rfl rfl rfl H46 ?_
      clear H46; intro v47 a47 wx47 hnil47 H47
      obtain ⟨Ar47, cr47, hvr47, hRr47, hmr47⟩ := row_shape (v := v47) H47.sep (by repeat (first | exact Mh | apply Mt))
      subst hvr47
      refine hfin (H47.sep.sub (by first | exact S0 | exact S1 | repeat (first | exact S1 | exact S0 | apply S2 | apply S3))) ?_
      refine hgo 16 rfl (by kernel_rfl) ?_
      refine st_append rfl z_slice30 z_notint30 rfl rfl (fun _ => (by repeat (first | exact Uh | apply Ut))) (fun w hs => Src.slice ((Pool.rds hL (rd_row (by repeat (first | exact Mh | apply Mt))) (((i : Int) + 1).toNat) cc hcap) w hs) (by rw [Pool.wc_len (hL.drop _), List.length_drop]) (Pool.wc_cell _)) (by unfold maxLen at *; first | omega | (simp only [List.length_cons, List.length_nil, List.length_append, List.length_map]; omega)) (by omega) rfl rfl rfl H47 ?_
      clear H47; intro v48 a48 wx48 hnil48 H48
      obtain ⟨ArT, crT, hvrT, hRrT, hmrT⟩ := row_shape (v := v48) H48.sep (by repeat (first | exact Mh | apply Mt))
      subst hvrT
      refine hfin (H48.sep.sub (by first | exact S0 | exact S1 | repeat (first | exact S1 | exact S0 | apply S2 | apply S3))) ?_
      refine htake 17 rfl (by kernel_rfl) (y_nilCheck rfl rfl) rfl rfl rfl (fun _ h => (h.sub (by first | exact S0 | exact S1 | repeat (first | exact S1 | exact S0 | apply S2 | apply S3)))) H48 ?_
      clear H48; intro a49 H49
      refine htake 18 rfl (by kernel_rfl) (y_fieldB rfl z_field63_1 rfl (by first | (simp only [Nat.zero_add, Nat.add_zero, Nat.reduceAdd]; rfl) | rfl)) rfl rfl rfl (fun _ h => (h.sub (by first | exact S0 | exact S1 | repeat (first | exact S1 | exact S0 | apply S2 | apply S3)))) H49 ?_
      clear H49; intro a50 H50
      refine hgo 19 rfl (by kernel_rfl) ?_
      refine st_store1N rfl z_size30 rfl rfl rfl (by repeat (first | exact Uh | apply Ut)) q_len_c2 q_set_c2_1 (by decide) rfl rfl H50 ?_
      clear H50; intro wx51 H51
      refine hfin (H51.sep.sub (by first | exact S0 | exact S1 | repeat (first | exact S1 | exact S0 | apply S2 | apply S3))) ?_
      refine hdone (by kernel_rfl) ?_
      refine then_n ?_
      refine wp_seq ?_
      refine reg ?_
      refine plain (y_loadAB rfl z_agg38 z_size38 rfl (by repeat (first | exact Mh | apply Mt)) (q_ld_c8b32b32c4_0_76 (by assumption) (by assumption)) (q_len_c8b32b32c4 (by assumption) (by assumption))) rfl rfl rfl H51 ?_
      clear H51; intro a52 H52
      refine st_storeN rfl z_size38 rfl rfl (agg_cells _) (by repeat (first | exact Uh | apply Ut)) (q_one_c8b32b32c4 rfl rfl rfl rfl rfl rfl rfl rfl rfl rfl rfl rfl) (q_len_c8b32b32c4 (by assumption) (by assumption)) (q_len_c8b32b32c4 (by assumption) (by assumption)) (q_spl_c8b32b32c4_0_c8b32b32c4 (by assumption) (by assumption) (by assumption) (by assumption)) (by decide) rfl rfl H52 ?_
      clear H52; intro wx53 H53
      refine fin ?_
      refine then_n ?_
      refine wp_ret ?_
      -- return 3
      refine retc rfl H53 rfl z_agg38 z_size38 (by repeat (first | exact Mh | apply Mt)) (q_len_c8b32b32c4 (by assumption) (by assumption)) ?_
      have hsx := H53.sep.sub (List.Sublist.cons_cons _ (List.Sublist.cons _ (List.Sublist.cons _ (List.Sublist.cons _ (List.Sublist.refl _)))))
      simp only [List.nil_append, Int.toNat_natCast, Nat.zero_add, Pool.cut_erase, Pool.len_erase hi] at hsx
      exact ⟨_, _, rfl, ⟨rfl, _, rfl⟩, hsx⟩
  · skip
    refine plain (y_loadB rfl z_agg30 rfl (by repeat (first | exact Mh | apply Mt)) q_ix_c2_1) rfl rfl rfl H21 ?_
    clear H21; intro a54 H54
    refine hfin (H54.sep.sub (by first | exact S0 | exact S1 | repeat (first | exact S1 | exact S0 | apply S2 | apply S3))) ?_
    refine htake 7 rfl (by kernel_rfl) (y_slS_hi rfl Try.underlying30 z_size38 rfl rfl (by omega) (by omega) (by omega)) rfl rfl rfl (fun _ h => (h.sub (by first | exact S0 | exact S1 | repeat (first | exact S1 | exact S0 | apply S2 | apply S3)))) H54 ?_
    clear H54; intro a55 H55
    refine hgo2 1 12 rfl rfl (by kernel_rfl) ?_ ?_
    · skip
      refine st_buildSlice rfl Try.underlying30 z_size38 z_zero38 rfl rfl rfl (show _ = some ([] : List Value) from rfl) rfl rfl rfl H55 ?_
      clear H55; intro b56 a56 wx56 H56
      refine hfin (H56.sep.sub (by first | exact S0 | exact S1 | repeat (first | exact S1 | exact S0 | apply S2 | apply S3))) ?_
      refine hgo2 8 12 rfl rfl (by kernel_rfl) ?_ ?_
      · skip
        replace H56 := H56.asRow (b := b56) (size := 76) (m := 0) (by repeat (first | exact Uh | apply Ut)) rfl (by unfold maxLen; omega)
        refine st_append rfl z_slice30 z_notint30 rfl rfl (fun _ => (by repeat (first | exact Uh | apply Ut))) (fun w hs => Src.slice ((Pool.rdp hL (rd_row (by repeat (first | exact Mh | apply Mt))) ((i : Int).toNat)) w hs) (by rw [Pool.wc_len (hL.take _), List.length_take, Nat.min_eq_left (show (i : Int).toNat ≤ L.length by omega)]) (Pool.wc_cell _)) (by unfold maxLen at *; first | omega | (simp only [List.length_cons, List.length_nil, List.length_append, List.length_map]; omega)) (by omega) rfl rfl rfl H56 ?_
        clear H56; intro v57 a57 wx57 hnil57 H57
        obtain ⟨Ar57, cr57, hvr57, hRr57, hmr57⟩ := row_shape (v := v57) H57.sep (by repeat (first | exact Mh | apply Mt))
        subst hvr57
        refine hfin (H57.sep.sub (by first | exact S0 | exact S1 | repeat (first | exact S1 | exact S0 | apply S2 | apply S3))) ?_
        refine hgo 12 rfl (by kernel_rfl) ?_
        refine plain (y_loadB rfl z_agg30 rfl (by repeat (first | exact Mh | apply Mt)) q_ix_c2_1) rfl rfl rfl H57 ?_
        clear H57; intro a58 H58
        refine hfin (H58.sep.sub (by first | exact S0 | exact S1 | repeat (first | exact S1 | exact S0 | apply S2 | apply S3))) ?_
        refine htake 15 rfl (by kernel_rfl) (y_slS_lo rfl Try.underlying30 z_size38 rfl rfl (by omega) (by omega)) rfl rfl rfl (fun _ h => (h.sub (by first | exact S0 | exact S1 | repeat (first | exact S1 | exact S0 | apply S2 | apply S3)))) H58 ?_
        clear H58; intro a59 H59
        refine hgo 16 rfl (by kernel_rfl) ?_
        refine st_append rfl z_slice30 z_notint30 rfl rfl (fun _ => (by repeat (first | exact Uh | apply Ut))) (fun w hs => Src.slice ((Pool.rds hL (rd_row (by repeat (first | exact Mh | apply Mt))) (((i : Int) + 1).toNat) cc hcap) w hs) (by rw [Pool.wc_len (hL.drop _), List.length_drop]) (Pool.wc_cell _)) (by unfold maxLen at *; first | omega | (simp only [List.length_cons, List.length_nil, List.length_append, List.length_map]; omega)) (by omega) rfl rfl rfl H59 ?_
        clear H59; intro v60 a60 wx60 hnil60 H60
        obtain ⟨ArT, crT, hvrT, hRrT, hmrT⟩ := row_shape (v := v60) H60.sep (by repeat (first | exact Mh | apply Mt))
        subst hvrT
        refine hfin (H60.sep.sub (by first | exact S0 | exact S1 | repeat (first | exact S1 | exact S0 | apply S2 | apply S3))) ?_
        refine htake 17 rfl (by kernel_rfl) (y_nilCheck rfl rfl) rfl rfl rfl (fun _ h => (h.sub (by first | exact S0 | exact S1 | repeat (first | exact S1 | exact S0 | apply S2 | apply S3)))) H60 ?_
        clear H60; intro a61 H61
        refine htake 18 rfl (by kernel_rfl) (y_fieldB rfl z_field63_1 rfl (by first | (simp only [Nat.zero_add, Nat.add_zero, Nat.reduceAdd]; rfl) | rfl)) rfl rfl rfl (fun _ h => (h.sub (by first | exact S0 | exact S1 | repeat (first | exact S1 | exact S0 | apply S2 | apply S3)))) H61 ?_
        clear H61; intro a62 H62
        refine hgo 19 rfl (by kernel_rfl) ?_
        refine st_store1N rfl z_size30 rfl rfl rfl (by repeat (first | exact Uh | apply Ut)) q_len_c2 q_set_c2_1 (by decide) rfl rfl H62 ?_
        clear H62; intro wx63 H63
        refine hfin (H63.sep.sub (by first | exact S0 | exact S1 | repeat (first | exact S1 | exact S0 | apply S2 | apply S3))) ?_
        refine hdone (by kernel_rfl) ?_
        refine then_n ?_
        refine wp_seq ?_
        refine reg ?_
        refine plain (y_loadAB rfl z_agg38 z_size38 rfl (by repeat (first | exact Mh | apply Mt)) (q_ld_c8b32b32c4_0_76 (by assumption) (by assumption)) (q_len_c8b32b32c4 (by assumption) (by assumption))) rfl rfl rfl H63 ?_
        clear H63; intro a64 H64
        refine st_storeN rfl z_size38 rfl rfl (agg_cells _) (by repeat (first | exact Uh | apply Ut)) (q_one_c8b32b32c4 rfl rfl rfl rfl rfl rfl rfl rfl rfl rfl rfl rfl) (q_len_c8b32b32c4 (by assumption) (by assumption)) (q_len_c8b32b32c4 (by assumption) (by assumption)) (q_spl_c8b32b32c4_0_c8b32b32c4 (by assumption) (by assumption) (by assumption) (by assumption)) (by decide) rfl rfl H64 ?_
        clear H64; intro wx65 H65
        refine fin ?_
        refine then_n ?_
        refine wp_ret ?_
        -- return 4
        refine retc rfl H65 rfl z_agg38 z_size38 (by repeat (first | exact Mh | apply Mt)) (q_len_c8b32b32c4 (by assumption) (by assumption)) ?_
        have hsx := H65.sep.sub (List.Sublist.cons_cons _ (List.Sublist.cons _ (List.Sublist.cons _ (List.Sublist.cons _ (List.Sublist.refl _)))))
        simp only [List.nil_append, Int.toNat_natCast, Nat.zero_add, Pool.cut_erase, Pool.len_erase hi] at hsx
        exact ⟨_, _, rfl, ⟨rfl, _, rfl⟩, hsx⟩
      · skip
        refine plain (y_loadB rfl z_agg30 rfl (by repeat (first | exact Mh | apply Mt)) q_ix_c2_1) rfl rfl rfl H56 ?_
        clear H56; intro a66 H66
        refine hfin (H66.sep.sub (by first | exact S0 | exact S1 | repeat (first | exact S1 | exact S0 | apply S2 | apply S3))) ?_
        refine htake 15 rfl (by kernel_rfl) (y_slS_lo rfl Try.underlying30 z_size38 rfl rfl (by omega) (by omega)) rfl rfl rfl (fun _ h => (h.sub (by first | exact S0 | exact S1 | repeat (first | exact S1 | exact S0 | apply S2 | apply S3)))) H66 ?_
        clear H66; intro a67 H67
        refine hgo 8 rfl (by kernel_rfl) ?_
        replace H67 := H67.asRow (b := b56) (size := 76) (m := 0) (by repeat (first | exact Uh | apply Ut)) rfl (by unfold maxLen; omega)
        refine st_append rfl z_slice30 z_notint30 rfl rfl (fun _ => (by repeat (first | exact Uh | apply Ut))) (fun w hs => Src.slice ((Pool.rdp hL (rd_row (by repeat (first | exact Mh | apply Mt))) ((i : Int).toNat)) w hs) (by rw [Pool.wc_len (hL.take _), List.length_take, Nat.min_eq_left (show (i : Int).toNat ≤ L.length by omega)]) (Pool.wc_cell _)) (by unfold maxLen at *; first | omega | (simp only [List.length_cons, List.length_nil, List.length_append, List.length_map]; omega)) (by omega) rfl rfl rfl H67 ?_
        clear H67; intro v68 a68 wx68 hnil68 H68
        obtain ⟨Ar68, cr68, hvr68, hRr68, hmr68⟩ := row_shape (v := v68) H68.sep (by repeat (first | exact Mh | apply Mt))
        subst hvr68
        refine hfin (H68.sep.sub (by first | exact S0 | exact S1 | repeat (first | exact S1 | exact S0 | apply S2 | apply S3))) ?_
        refine hgo 16 rfl (by kernel_rfl) ?_
        refine st_append rfl z_slice30 z_notint30 rfl rfl (fun _ => (by repeat (first | exact Uh | apply Ut))) (fun w hs => Src.slice ((Pool.rds hL (rd_row (by repeat (first | exact Mh | apply Mt))) (((i : Int) + 1).toNat) cc hcap) w hs) (by rw [Pool.wc_len (hL.drop _), List.length_drop]) (Pool.wc_cell _)) (by unfold maxLen at *; first | omega | (simp only [List.length_cons, List.length_nil, List.length_append, List.length_map]; omega)) (by omega) rfl rfl rfl H68 ?_
        clear H68; intro v69 a69 wx69 hnil69 H69
        obtain ⟨ArT, crT, hvrT, hRrT, hmrT⟩ := row_shape (v := v69) H69.sep (by repeat (first | exact Mh | apply Mt))
        subst hvrT
        refine hfin (H69.sep.sub (by first | exact S0 | exact S1 | repeat (first | exact S1 | exact S0 | apply S2 | apply S3))) ?_
        refine htake 17 rfl (by kernel_rfl) (y_nilCheck rfl rfl) rfl rfl rfl (fun _ h => (h.sub (by first | exact S0 | exact S1 | repeat (first | exact S1 | exact S0 | apply S2 | apply S3)))) H69 ?_
        clear H69; intro a70 H70
        refine htake 18 rfl (by kernel_rfl) (y_fieldB rfl z_field63_1 rfl (by first | (simp only [Nat.zero_add, Nat.add_zero, Nat.reduceAdd]; rfl) | rfl)) rfl rfl rfl (fun _ h => (h.sub (by first | exact S0 | exact S1 | repeat (first | exact S1 | exact S0 | apply S2 | apply S3)))) H70 ?_
        clear H70; intro a71 H71
        refine hgo 19 rfl (by kernel_rfl) ?_
        refine st_store1N rfl z_size30 rfl rfl rfl (by repeat (first | exact Uh | apply Ut)) q_len_c2 q_set_c2_1 (by decide) rfl rfl H71 ?_
        clear H71; intro wx72 H72
        refine hfin (H72.sep.sub (by first | exact S0 | exact S1 | repeat (first | exact S1 | exact S0 | apply S2 | apply S3))) ?_
        refine hdone (by kernel_rfl) ?_
        refine then_n ?_
        refine wp_seq ?_
        refine reg ?_
        refine plain (y_loadAB rfl z_agg38 z_size38 rfl (by repeat (first | exact Mh | apply Mt)) (q_ld_c8b32b32c4_0_76 (by assumption) (by assumption)) (q_len_c8b32b32c4 (by assumption) (by assumption))) rfl rfl rfl H72 ?_
        clear H72; intro a73 H73
        refine st_storeN rfl z_size38 rfl rfl (agg_cells _) (by repeat (first | exact Uh | apply Ut)) (q_one_c8b32b32c4 rfl rfl rfl rfl rfl rfl rfl rfl rfl rfl rfl rfl) (q_len_c8b32b32c4 (by assumption) (by assumption)) (q_len_c8b32b32c4 (by assumption) (by assumption)) (q_spl_c8b32b32c4_0_c8b32b32c4 (by assumption) (by assumption) (by assumption) (by assumption)) (by decide) rfl rfl H73 ?_
        clear H73; intro wx74 H74
        refine fin ?_
        refine then_n ?_
        refine wp_ret ?_
        -- return 5
        refine retc rfl H74 rfl z_agg38 z_size38 (by repeat (first | exact Mh | apply Mt)) (q_len_c8b32b32c4 (by assumption) (by assumption)) ?_
        have hsx := H74.sep.sub (List.Sublist.cons_cons _ (List.Sublist.cons _ (List.Sublist.cons _ (List.Sublist.cons _ (List.Sublist.refl _)))))
        simp only [List.nil_append, Int.toNat_natCast, Nat.zero_add, Pool.cut_erase, Pool.len_erase hi] at hsx
        exact ⟨_, _, rfl, ⟨rfl, _, rfl⟩, hsx⟩
    · skip
      refine plain (y_loadB rfl z_agg30 rfl (by repeat (first | exact Mh | apply Mt)) q_ix_c2_1) rfl rfl rfl H55 ?_
      clear H55; intro a75 H75
      refine hfin (H75.sep.sub (by first | exact S0 | exact S1 | repeat (first | exact S1 | exact S0 | apply S2 | apply S3))) ?_
      refine htake 15 rfl (by kernel_rfl) (y_slS_lo rfl Try.underlying30 z_size38 rfl rfl (by omega) (by omega)) rfl rfl rfl (fun _ h => (h.sub (by first | exact S0 | exact S1 | repeat (first | exact S1 | exact S0 | apply S2 | apply S3)))) H75 ?_
      clear H75; intro a76 H76
      refine hgo 1 rfl (by kernel_rfl) ?_
      refine st_buildSlice rfl Try.underlying30 z_size38 z_zero38 rfl rfl rfl (show _ = some ([] : List Value) from rfl) rfl rfl rfl H76 ?_
      clear H76; intro b77 a77 wx77 H77
      refine hfin (H77.sep.sub (by first | exact S0 | exact S1 | repeat (first | exact S1 | exact S0 | apply S2 | apply S3))) ?_
      refine hgo 8 rfl (by kernel_rfl) ?_
      replace H77 := H77.asRow (b := b77) (size := 76) (m := 0) (by repeat (first | exact Uh | apply Ut)) rfl (by unfold maxLen; omega)
      refine st_append rfl z_slice30 z_notint30 rfl rfl (fun _ => (by repeat (first | exact Uh | apply Ut))) (fun w hs => Src.slice ((Pool.rdp hL (rd_row (by repeat (first | exact Mh | apply Mt))) ((i : Int).toNat)) w hs) (by rw [Pool.wc_len (hL.take _), List.length_take, Nat.min_eq_left (show (i : Int).toNat ≤ L.length by omega)]) (Pool.wc_cell _)) (by unfold maxLen at *; first | omega | (simp only [List.length_cons, List.length_nil, List.length_append, List.length_map]; omega)) (by omega) rfl rfl rfl H77 ?_
      clear H77; intro v78 a78 wx78 hnil78 H78
      obtain ⟨Ar78, cr78, hvr78, hRr78, hmr78⟩ := row_shape (v := v78) H78.sep (by repeat (first | exact Mh | apply Mt))
      subst hvr78
      refine hfin (H78.sep.sub (by first | exact S0 | exact S1 | repeat (first | exact S1 | exact S0 | apply S2 | apply S3))) ?_
      refine hgo 16 rfl (by kernel_rfl) ?_
      refine st_append rfl z_slice30 z_notint30 rfl rfl (fun _ => (by repeat (first | exact Uh | apply Ut))) (fun w hs => Src.slice ((Pool.rds hL (rd_row (by repeat (first | exact Mh | apply Mt))) (((i : Int) + 1).toNat) cc hcap) w hs) (by rw [Pool.wc_len (hL.drop _), List.length_drop]) (Pool.wc_cell _)) (by unfold maxLen at *; first | omega | (simp only [List.length_cons, List.length_nil, List.length_append, List.length_map]; omega)) (by omega) rfl rfl rfl H78 ?_
      clear H78; intro v79 a79 wx79 hnil79 H79
      obtain ⟨ArT, crT, hvrT, hRrT, hmrT⟩ := row_shape (v := v79) H79.sep (by repeat (first | exact Mh | apply Mt))
      subst hvrT
      refine hfin (H79.sep.sub (by first | exact S0 | exact S1 | repeat (first | exact S1 | exact S0 | apply S2 | apply S3))) ?_
      refine htake 17 rfl (by kernel_rfl) (y_nilCheck rfl rfl) rfl rfl rfl (fun _ h => (h.sub (by first | exact S0 | exact S1 | repeat (first | exact S1 | exact S0 | apply S2 | apply S3)))) H79 ?_
      clear H79; intro a80 H80
      refine htake 18 rfl (by kernel_rfl) (y_fieldB rfl z_field63_1 rfl (by first | (simp only [Nat.zero_add, Nat.add_zero, Nat.reduceAdd]; rfl) | rfl)) rfl rfl rfl (fun _ h => (h.sub (by first | exact S0 | exact S1 | repeat (first | exact S1 | exact S0 | apply S2 | apply S3)))) H80 ?_
      clear H80; intro a81 H81
      refine hgo 19 rfl (by kernel_rfl) ?_
      refine st_store1N rfl z_size30 rfl rfl rfl (by repeat (first | exact Uh | apply Ut)) q_len_c2 q_set_c2_1 (by decide) rfl rfl H81 ?_
      clear H81; intro wx82 H82
      refine hfin (H82.sep.sub (by first | exact S0 | exact S1 | repeat (first | exact S1 | exact S0 | apply S2 | apply S3))) ?_
      refine hdone (by kernel_rfl) ?_
      refine then_n ?_
      refine wp_seq ?_
      refine reg ?_
      refine plain (y_loadAB rfl z_agg38 z_size38 rfl (by repeat (first | exact Mh | apply Mt)) (q_ld_c8b32b32c4_0_76 (by assumption) (by assumption)) (q_len_c8b32b32c4 (by assumption) (by assumption))) rfl rfl rfl H82 ?_
      clear H82; intro a83 H83
      refine st_storeN rfl z_size38 rfl rfl (agg_cells _) (by repeat (first | exact Uh | apply Ut)) (q_one_c8b32b32c4 rfl rfl rfl rfl rfl rfl rfl rfl rfl rfl rfl rfl) (q_len_c8b32b32c4 (by assumption) (by assumption)) (q_len_c8b32b32c4 (by assumption) (by assumption)) (q_spl_c8b32b32c4_0_c8b32b32c4 (by assumption) (by assumption) (by assumption) (by assumption)) (by decide) rfl rfl H83 ?_
      clear H83; intro wx84 H84
      refine fin ?_
      refine then_n ?_
      refine wp_ret ?_
      -- return 6
      refine retc rfl H84 rfl z_agg38 z_size38 (by repeat (first | exact Mh | apply Mt)) (q_len_c8b32b32c4 (by assumption) (by assumption)) ?_
      have hsx := H84.sep.sub (List.Sublist.cons_cons _ (List.Sublist.cons _ (List.Sublist.cons _ (List.Sublist.cons _ (List.Sublist.refl _)))))
      simp only [List.nil_append, Int.toNat_natCast, Nat.zero_add, Pool.cut_erase, Pool.len_erase hi] at hsx
      exact ⟨_, _, rfl, ⟨rfl, _, rfl⟩, hsx⟩
  · skip
    refine plain (y_loadB rfl z_agg30 rfl (by repeat (first | exact Mh | apply Mt)) q_ix_c2_1) rfl rfl rfl H21 ?_
    clear H21; intro a85 H85
    refine hfin (H85.sep.sub (by first | exact S0 | exact S1 | repeat (first | exact S1 | exact S0 | apply S2 | apply S3))) ?_
    refine htake 15 rfl (by kernel_rfl) (y_slS_lo rfl Try.underlying30 z_size38 rfl rfl (by omega) (by omega)) rfl rfl rfl (fun _ h => (h.sub (by first | exact S0 | exact S1 | repeat (first | exact S1 | exact S0 | apply S2 | apply S3)))) H85 ?_
    clear H85; intro a86 H86
    refine hgo2 1 5 rfl rfl (by kernel_rfl) ?_ ?_
    · skip
      refine st_buildSlice rfl Try.underlying30 z_size38 z_zero38 rfl rfl rfl (show _ = some ([] : List Value) from rfl) rfl rfl rfl H86 ?_
      clear H86; intro b87 a87 wx87 H87
      refine hfin (H87.sep.sub (by first | exact S0 | exact S1 | repeat (first | exact S1 | exact S0 | apply S2 | apply S3))) ?_
      refine hgo 5 rfl (by kernel_rfl) ?_
      refine plain (y_loadB rfl z_agg30 rfl (by repeat (first | exact Mh | apply Mt)) q_ix_c2_1) rfl rfl rfl H87 ?_
      clear H87; intro a88 H88
      refine hfin (H88.sep.sub (by first | exact S0 | exact S1 | repeat (first | exact S1 | exact S0 | apply S2 | apply S3))) ?_
      refine htake 7 rfl (by kernel_rfl) (y_slS_hi rfl Try.underlying30 z_size38 rfl rfl (by omega) (by omega) (by omega)) rfl rfl rfl (fun _ h => (h.sub (by first | exact S0 | exact S1 | repeat (first | exact S1 | exact S0 | apply S2 | apply S3)))) H88 ?_
      clear H88; intro a89 H89
      refine hgo 8 rfl (by kernel_rfl) ?_
      replace H89 := H89.asRow (b := b87) (size := 76) (m := 0) (by repeat (first | exact Uh | apply Ut)) rfl (by unfold maxLen; omega)
      refine st_append rfl z_slice30 z_notint30 rfl rfl (fun _ => (by repeat (first | exact Uh | apply Ut))) (fun w hs => Src.slice ((Pool.rdp hL (rd_row (by repeat (first | exact Mh | apply Mt))) ((i : Int).toNat)) w hs) (by rw [Pool.wc_len (hL.take _), List.length_take, Nat.min_eq_left (show (i : Int).toNat ≤ L.length by omega)]) (Pool.wc_cell _)) (by unfold maxLen at *; first | omega | (simp only [List.length_cons, List.length_nil, List.length_append, List.length_map]; omega)) (by omega) rfl rfl rfl H89 ?_
      clear H89; intro v90 a90 wx90 hnil90 H90
      obtain ⟨Ar90, cr90, hvr90, hRr90, hmr90⟩ := row_shape (v := v90) H90.sep (by repeat (first | exact Mh | apply Mt))
      subst hvr90
      refine hfin (H90.sep.sub (by first | exact S0 | exact S1 | repeat (first | exact S1 | exact S0 | apply S2 | apply S3))) ?_
      refine hgo 16 rfl (by kernel_rfl) ?_
      refine st_append rfl z_slice30 z_notint30 rfl rfl (fun _ => (by repeat (first | exact Uh | apply Ut))) (fun w hs => Src.slice ((Pool.rds hL (rd_row (by repeat (first | exact Mh | apply Mt))) (((i : Int) + 1).toNat) cc hcap) w hs) (by rw [Pool.wc_len (hL.drop _), List.length_drop]) (Pool.wc_cell _)) (by unfold maxLen at *; first | omega | (simp only [List.length_cons, List.length_nil, List.length_append, List.length_map]; omega)) (by omega) rfl rfl rfl H90 ?_
      clear H90; intro v91 a91 wx91 hnil91 H91
      obtain ⟨ArT, crT, hvrT, hRrT, hmrT⟩ := row_shape (v := v91) H91.sep (by repeat (first | exact Mh | apply Mt))
      subst hvrT
      refine hfin (H91.sep.sub (by first | exact S0 | exact S1 | repeat (first | exact S1 | exact S0 | apply S2 | apply S3))) ?_
      refine htake 17 rfl (by kernel_rfl) (y_nilCheck rfl rfl) rfl rfl rfl (fun _ h => (h.sub (by first | exact S0 | exact S1 | repeat (first | exact S1 | exact S0 | apply S2 | apply S3)))) H91 ?_
      clear H91; intro a92 H92
      refine htake 18 rfl (by kernel_rfl) (y_fieldB rfl z_field63_1 rfl (by first | (simp only [Nat.zero_add, Nat.add_zero, Nat.reduceAdd]; rfl) | rfl)) rfl rfl rfl (fun _ h => (h.sub (by first | exact S0 | exact S1 | repeat (first | exact S1 | exact S0 | apply S2 | apply S3)))) H92 ?_
      clear H92; intro a93 H93
      refine hgo 19 rfl (by kernel_rfl) ?_
      refine st_store1N rfl z_size30 rfl rfl rfl (by repeat (first | exact Uh | apply Ut)) q_len_c2 q_set_c2_1 (by decide) rfl rfl H93 ?_
      clear H93; intro wx94 H94
      refine hfin (H94.sep.sub (by first | exact S0 | exact S1 | repeat (first | exact S1 | exact S0 | apply S2 | apply S3))) ?_
      refine hdone (by kernel_rfl) ?_
      refine then_n ?_
      refine wp_seq ?_
      refine reg ?_
      refine plain (y_loadAB rfl z_agg38 z_size38 rfl (by repeat (first | exact Mh | apply Mt)) (q_ld_c8b32b32c4_0_76 (by assumption) (by assumption)) (q_len_c8b32b32c4 (by assumption) (by assumption))) rfl rfl rfl H94 ?_
      clear H94; intro a95 H95
      refine st_storeN rfl z_size38 rfl rfl (agg_cells _) (by repeat (first | exact Uh | apply Ut)) (q_one_c8b32b32c4 rfl rfl rfl rfl rfl rfl rfl rfl rfl rfl rfl rfl) (q_len_c8b32b32c4 (by assumption) (by assumption)) (q_len_c8b32b32c4 (by assumption) (by assumption)) (q_spl_c8b32b32c4_0_c8b32b32c4 (by assumption) (by assumption) (by assumption) (by assumption)) (by decide) rfl rfl H95 ?_
      clear H95; intro wx96 H96
      refine fin ?_
      refine then_n ?_
      refine wp_ret ?_
      -- return 7
      refine retc rfl H96 rfl z_agg38 z_size38 (by repeat (first | exact Mh | apply Mt)) (q_len_c8b32b32c4 (by assumption) (by assumption)) ?_
      have hsx := H96.sep.sub (List.Sublist.cons_cons _ (List.Sublist.cons _ (List.Sublist.cons _ (List.Sublist.cons _ (List.Sublist.refl _)))))
      simp only [List.nil_append, Int.toNat_natCast, Nat.zero_add, Pool.cut_erase, Pool.len_erase hi] at hsx
      exact ⟨_, _, rfl, ⟨rfl, _, rfl⟩, hsx⟩
    · skip
      refine plain (y_loadB rfl z_agg30 rfl (by repeat (first | exact Mh | apply Mt)) q_ix_c2_1) rfl rfl rfl H86 ?_
      clear H86; intro a97 H97
      refine hfin (H97.sep.sub (by first | exact S0 | exact S1 | repeat (first | exact S1 | exact S0 | apply S2 | apply S3))) ?_
      refine htake 7 rfl (by kernel_rfl) (y_slS_hi rfl Try.underlying30 z_size38 rfl rfl (by omega) (by omega) (by omega)) rfl rfl rfl (fun _ h => (h.sub (by first | exact S0 | exact S1 | repeat (first | exact S1 | exact S0 | apply S2 | apply S3)))) H97 ?_
      clear H97; intro a98 H98
      refine hgo 1 rfl (by kernel_rfl) ?_
      refine st_buildSlice rfl Try.underlying30 z_size38 z_zero38 rfl rfl rfl (show _ = some ([] : List Value) from rfl) rfl rfl rfl H98 ?_
      clear H98; intro b99 a99 wx99 H99
      refine hfin (H99.sep.sub (by first | exact S0 | exact S1 | repeat (first | exact S1 | exact S0 | apply S2 | apply S3))) ?_
      refine hgo 8 rfl (by kernel_rfl) ?_
      replace H99 := H99.asRow (b := b99) (size := 76) (m := 0) (by repeat (first | exact Uh | apply Ut)) rfl (by unfold maxLen; omega)
      refine st_append rfl z_slice30 z_notint30 rfl rfl (fun _ => (by repeat (first | exact Uh | apply Ut))) (fun w hs => Src.slice ((Pool.rdp hL (rd_row (by repeat (first | exact Mh | apply Mt))) ((i : Int).toNat)) w hs) (by rw [Pool.wc_len (hL.take _), List.length_take, Nat.min_eq_left (show (i : Int).toNat ≤ L.length by omega)]) (Pool.wc_cell _)) (by unfold maxLen at *; first | omega | (simp only [List.length_cons, List.length_nil, List.length_append, List.length_map]; omega)) (by omega) rfl rfl rfl H99 ?_
      clear H99; intro v100 a100 wx100 hnil100 H100
      obtain ⟨Ar100, cr100, hvr100, hRr100, hmr100⟩ := row_shape (v := v100) H100.sep (by repeat (first | exact Mh | apply Mt))
      subst hvr100
      refine hfin (H100.sep.sub (by first | exact S0 | exact S1 | repeat (first | exact S1 | exact S0 | apply S2 | apply S3))) ?_
      refine hgo 16 rfl (by kernel_rfl) ?_
      refine st_append rfl z_slice30 z_notint30 rfl rfl (fun _ => (by repeat (first | exact Uh | apply Ut))) (fun w hs => Src.slice ((Pool.rds hL (rd_row (by repeat (first | exact Mh | apply Mt))) (((i : Int) + 1).toNat) cc hcap) w hs) (by rw [Pool.wc_len (hL.drop _), List.length_drop]) (Pool.wc_cell _)) (by unfold maxLen at *; first | omega | (simp only [List.length_cons, List.length_nil, List.length_append, List.length_map]; omega)) (by omega) rfl rfl rfl H100 ?_
      clear H100; intro v101 a101 wx101 hnil101 H101
      obtain ⟨ArT, crT, hvrT, hRrT, hmrT⟩ := row_shape (v := v101) H101.sep (by repeat (first | exact Mh | apply Mt))
      subst hvrT
      refine hfin (H101.sep.sub (by first | exact S0 | exact S1 | repeat (first | exact S1 | exact S0 | apply S2 | apply S3))) ?_
      refine htake 17 rfl (by kernel_rfl) (y_nilCheck rfl rfl) rfl rfl rfl (fun _ h => (h.sub (by first | exact S0 | exact S1 | repeat (first | exact S1 | exact S0 | apply S2 | apply S3)))) H101 ?_
      clear H101; intro a102 H102
      refine htake 18 rfl (by kernel_rfl) (y_fieldB rfl z_field63_1 rfl (by first | (simp only [Nat.zero_add, Nat.add_zero, Nat.reduceAdd]; rfl) | rfl)) rfl rfl rfl (fun _ h => (h.sub (by first | exact S0 | exact S1 | repeat (first | exact S1 | exact S0 | apply S2 | apply S3)))) H102 ?_
      clear H102; intro a103 H103
      refine hgo 19 rfl (by kernel_rfl) ?_
      refine st_store1N rfl z_size30 rfl rfl rfl (by repeat (first | exact Uh | apply Ut)) q_len_c2 q_set_c2_1 (by decide) rfl rfl H103 ?_
      clear H103; intro wx104 H104
      refine hfin (H104.sep.sub (by first | exact S0 | exact S1 | repeat (first | exact S1 | exact S0 | apply S2 | apply S3))) ?_
      refine hdone (by kernel_rfl) ?_
      refine then_n ?_
      refine wp_seq ?_
      refine reg ?_
      refine plain (y_loadAB rfl z_agg38 z_size38 rfl (by repeat (first | exact Mh | apply Mt)) (q_ld_c8b32b32c4_0_76 (by assumption) (by assumption)) (q_len_c8b32b32c4 (by assumption) (by assumption))) rfl rfl rfl H104 ?_
      clear H104; intro a105 H105
      refine st_storeN rfl z_size38 rfl rfl (agg_cells _) (by repeat (first | exact Uh | apply Ut)) (q_one_c8b32b32c4 rfl rfl rfl rfl rfl rfl rfl rfl rfl rfl rfl rfl) (q_len_c8b32b32c4 (by assumption) (by assumption)) (q_len_c8b32b32c4 (by assumption) (by assumption)) (q_spl_c8b32b32c4_0_c8b32b32c4 (by assumption) (by assumption) (by assumption) (by assumption)) (by decide) rfl rfl H105 ?_
      clear H105; intro wx106 H106
      refine fin ?_
      refine then_n ?_
      refine wp_ret ?_
      -- return 8
      refine retc rfl H106 rfl z_agg38 z_size38 (by repeat (first | exact Mh | apply Mt)) (q_len_c8b32b32c4 (by assumption) (by assumption)) ?_
      have hsx := H106.sep.sub (List.Sublist.cons_cons _ (List.Sublist.cons _ (List.Sublist.cons _ (List.Sublist.cons _ (List.Sublist.refl _)))))
      simp only [List.nil_append, Int.toNat_natCast, Nat.zero_add, Pool.cut_erase, Pool.len_erase hi] at hsx
      exact ⟨_, _, rfl, ⟨rfl, _, rfl⟩, hsx⟩

end Go.Proofs.Ytbdkgmkaakoigaa.P_Tk
