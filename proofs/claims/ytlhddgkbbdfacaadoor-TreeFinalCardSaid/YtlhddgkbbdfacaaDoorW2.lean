/- Part of a proof about given Go functions: contracts of functions, or plain laws. -/
import Derived.Test.YtlhddgkbbdfacaaDoorS8
import Derived.Test.YtlhddgkbbdfacaaDoorS6
import Derived.Test.YtlhddgkbbdfacaaDoorS7
import Derived.Test.YtlhddgkbbdfacaaDoorS3
import Derived.Test.YtlhddgkbbdfacaaDoorS1
import Derived.Test.YtlhddgkbbdfacaaDoorS2
import Derived.Test.YtlhddgkbbdfacaaDoorS4
import Derived.Test.YtlhddgkbbdfacaaDoorProg
import Derived.Test.YtlhddgkbbdfacaaDoorW1
set_option linter.unusedVariables false
set_option linter.unusedSimpArgs false
namespace Go.Proofs.YtlhddgkbbdfacaaDoor.C_Nx
open Go.Sx Go.RowKit Go.Proofs.YtlhddgkbbdfacaaDoor.C_Block Go.Proofs.YtlhddgkbbdfacaaDoor.C_Sum Go.Proofs.YtlhddgkbbdfacaaDoor.C_Ref Go.Proofs.YtlhddgkbbdfacaaDoor.C_RSum Go.Proofs.YtlhddgkbbdfacaaDoor.C_Num Go.Proofs.YtlhddgkbbdfacaaDoor.C_Lay Go.Proofs.YtlhddgkbbdfacaaDoor.C_Leaf Go.Proofs.YtlhddgkbbdfacaaDoor.C_Item Go.Proofs.YtlhddgkbbdfacaaDoor.C_RefI Go.Proofs.YtlhddgkbbdfacaaDoor.C_Eq Go.Proofs.YtlhddgkbbdfacaaDoor.C_Hash

theorem z_zeroN26 : zeroL Tryd.prog 26 = some ((.int .i64 0 :: (.int .i64 0 :: ((List.replicate 32 (0 : UInt8)).map u8 ++ (.slice none 0 0 :: []))))) := by kernel_rfl
theorem z_zeroN23 : zeroL Tryd.prog 23 = some ((List.replicate 32 (0 : UInt8)).map u8) := by kernel_rfl
theorem z_agg23 : aggB Tryd.prog 23 = some true := by kernel_rfl
theorem z_size23 : sizeB Tryd.prog 23 = some 32 := by kernel_rfl
theorem q_ld_b32_0_32 {t0 : List UInt8} (h0 : t0.length = 32) : ((t0.map u8).drop 0).take 32 = t0.map u8 := (ld_a (len_e (k := 32) h0))
theorem q_len_b32 {t0 : List UInt8} (h0 : t0.length = 32) : (t0.map u8).length = 32 := (len_e (k := 32) h0)
theorem z_size69 : sizeB Tryd.prog 69 = some 4 := by kernel_rfl
theorem z_zero69 : zeroL Tryd.prog 69 = some ([.int .i64 0, .int .i64 0, .int .i64 0, .string ⟨#[]⟩]) := by kernel_rfl
theorem z_slice24 : sliceB Tryd.prog 24 = some (69, 4, 40) := by kernel_rfl
theorem z_notint24 : notIntB Tryd.prog 24 = true := by kernel_rfl
theorem z_places26 : placesB Tryd.prog 26 = some [(0, 1), (1, 1), (2, 32), (34, 1)] := by kernel_rfl
theorem q_len_c2b32c1 {a0 a1 a3 : Value} {t2 : List UInt8} (h2 : t2.length = 32) : (a0 :: a1 :: (t2.map u8 ++ (a3 :: []))).length = 35 := (len_c (n := 34) (len_c (n := 33) (len_b (k := 32) (n := 1) h2 (len_c (n := 0) len_n))))
theorem q_spl_c2b32c1_0_c1 {a0 a1 a3 : Value} {t2 : List UInt8} {b0 : Value} : spl (a0 :: a1 :: (t2.map u8 ++ (a3 :: []))) 0 (b0 :: []) = b0 :: a1 :: (t2.map u8 ++ (a3 :: [])) := spl_0
theorem q_spl_c2b32c1_1_c1 {a0 a1 a3 : Value} {t2 : List UInt8} {b0 : Value} : spl (a0 :: a1 :: (t2.map u8 ++ (a3 :: []))) 1 (b0 :: []) = a0 :: b0 :: (t2.map u8 ++ (a3 :: [])) := (spl_c (o := 0) spl_0)
theorem q_spl_c2b32c1_2_b32 {a0 a1 a3 : Value} {t2 : List UInt8} {s0 : List UInt8} (h2 : t2.length = 32) (g0 : s0.length = 32) : spl (a0 :: a1 :: (t2.map u8 ++ (a3 :: []))) 2 (s0.map u8) = a0 :: a1 :: (s0.map u8 ++ (a3 :: [])) := (spl_c (o := 1) (spl_c (o := 0) (spl_h (z := 32) (len_e h2) (len_e g0))))
theorem q_spl_c2b32c1_34_c1 {a0 a1 a3 : Value} {t2 : List UInt8} {b0 : Value} (h2 : t2.length = 32) : spl (a0 :: a1 :: (t2.map u8 ++ (a3 :: []))) 34 (b0 :: []) = a0 :: a1 :: (t2.map u8 ++ (b0 :: [])) := (spl_c (o := 33) (spl_c (o := 32) (spl_b (k := 32) (o := 0) h2 rfl spl_0)))
theorem z_size26 : sizeB Tryd.prog 26 = some 35 := by kernel_rfl
theorem q_one_c2b32c1 {a0 a1 a3 : Value} {t2 : List UInt8} (o0 : a0.oneCell' = true) (o1 : a1.oneCell' = true) (o3 : a3.oneCell' = true) : (a0 :: a1 :: (t2.map u8 ++ (a3 :: []))).all (·.oneCell') = true := (one_c o0 (one_c o1 (one_b (one_c o3 one_n))))
theorem q_spl_c2b32c1_0_c2b32c1 {a0 a1 a3 : Value} {t2 : List UInt8} {b0 b1 b3 : Value} {s2 : List UInt8} (h2 : t2.length = 32) (g2 : s2.length = 32) : spl (a0 :: a1 :: (t2.map u8 ++ (a3 :: []))) 0 (b0 :: b1 :: (s2.map u8 ++ (b3 :: []))) = b0 :: b1 :: (s2.map u8 ++ (b3 :: [])) := (spl_a (z := 35) (len_c (n := 34) (len_c (n := 33) (len_b (k := 32) (n := 1) h2 (len_c (n := 0) len_n)))) (len_c (n := 34) (len_c (n := 33) (len_b (k := 32) (n := 1) g2 (len_c (n := 0) len_n)))))
theorem z_agg26 : aggB Tryd.prog 26 = some true := by kernel_rfl
theorem q_ld_c2b32c1_0_35 {a0 a1 a3 : Value} {t2 : List UInt8} (h2 : t2.length = 32) : ((a0 :: a1 :: (t2.map u8 ++ (a3 :: []))).drop 0).take 35 = a0 :: a1 :: (t2.map u8 ++ (a3 :: [])) := (ld_a (len_c (n := 34) (len_c (n := 33) (len_b (k := 32) (n := 1) h2 (len_c (n := 0) len_n)))))
theorem z_call9 : callB Tryd.prog 9 = true := by kernel_rfl
theorem q_one_b32 {t0 : List UInt8} : (t0.map u8).all (·.oneCell') = true := (one_u8 _)
theorem q_spl_b32_0_b32 {t0 : List UInt8} {s0 : List UInt8} (h0 : t0.length = 32) (g0 : s0.length = 32) : spl (t0.map u8) 0 (s0.map u8) = s0.map u8 := (spl_a (z := 32) (len_e (k := 32) h0) (len_e (k := 32) g0))
theorem z_field26_3 : fieldB Tryd.prog 26 3 = some 34 := by kernel_rfl
theorem z_agg24 : aggB Tryd.prog 24 = some false := by kernel_rfl
theorem q_ix_c2b32c1_34 {a0 a1 a3 : Value} {t2 : List UInt8} (h2 : t2.length = 32) : (a0 :: a1 :: (t2.map u8 ++ (a3 :: [])))[34]? = some a3 := (ix_c (o := 33) (ix_c (o := 32) (ix_b (k := 32) (o := 0) h2 rfl ix_0)))
theorem z_size24 : sizeB Tryd.prog 24 = some 1 := by kernel_rfl
theorem q_set_c2b32c1_34 {a0 a1 a3 : Value} {t2 : List UInt8} {v : Value} (h2 : t2.length = 32) : (a0 :: a1 :: (t2.map u8 ++ (a3 :: []))).set 34 v = a0 :: a1 :: (t2.map u8 ++ (v :: [])) := (set_c (o := 33) (set_c (o := 32) (set_b (k := 32) (o := 0) h2 rfl set_0)))

set_option maxRecDepth 100000 in
set_option maxHeartbeats 2000000 in
theorem tnext (number salt : Int) (hnu : Note.I64 number) (hsa : Note.I64 salt) (p : List UInt8) (hpl : p.length = 32) (A : Option Addr) (ci : Nat) (its : List Note.Item) (hit : ∀ i ∈ its, Note.Item.Wf i) (hib : its.length * 40 ≤ 140737488355328) {w : World} (hR : Rd w A (Inbox.ic its)) (hG : Glob 0 Sha.K w) : Calls Tryd.prog 39 #[.int .i64 number, .agg (p.map u8).toArray, .slice A its.length ci, .int .i64 salt] w (Post [] w fun r l' => ∃ A' c', r = .tuple #[.agg (Inbox.BA.cells (⟨⟨number, salt, p, its⟩, A', c'⟩ : Inbox.BA)).toArray, .agg ((Tree.hash ⟨number, salt, p, its⟩).1.map u8).toArray, .int .i64 (Tree.hash ⟨number, salt, p, its⟩).2] ∧ l' = [It.row 69 4 (.slice A' its.length c') its.length (Inbox.ic its)]) := by
  have hZl : Note.Z.length = 32 := Note.Z_len
  have lz32 : (List.replicate 32 (0 : UInt8)).length = 32 := List.length_replicate
  refine enterL (args := [.int .i64 number, .agg (p.map u8).toArray, .slice A its.length ci, .int .i64 salt]) Tryd.func39 rfl rfl (l := []) (Sep.refl _) ?_
  intro a0 H0
  refine wp_seq ?_
  refine reg ?_
  refine st_box rfl rfl (agg_cells _) rfl rfl rfl H0 ?_
  clear H0; intro b1 a1 wx1 H1
  refine st_alloc rfl z_zeroN26 rfl rfl rfl H1 ?_
  clear H1; intro b2 a2 wx2 H2
  refine st_alloc rfl z_zeroN23 rfl rfl rfl H2 ?_
  clear H2; intro b3 a3 wx3 H3
  refine plain (y_assign rfl rfl) rfl rfl rfl H3 ?_
  clear H3; intro a4 H4
  refine fin ?_
  refine then_n ?_
  refine wp_seq ?_
  refine hreg [It.blk b1 23 (p.map u8)] (fun _ h => (h.sub (by first | exact S0 | exact S1 | repeat (first | exact S1 | exact S0 | apply S2 | apply S3)))) (by kernel_rfl) H4 ?_
  clear H4; intro wx5 H5
  refine htake 0 rfl (by kernel_rfl) (y_move rfl rfl) rfl rfl rfl (fun _ h => (h.sub (by first | exact S0 | exact S1 | repeat (first | exact S1 | exact S0 | apply S2 | apply S3)))) H5 ?_
  clear H5; intro a6 H6
  refine htake 1 rfl (by kernel_rfl) (y_move rfl rfl) rfl rfl rfl (fun _ h => (h.sub (by first | exact S0 | exact S1 | repeat (first | exact S1 | exact S0 | apply S2 | apply S3)))) H6 ?_
  clear H6; intro a7 H7
  refine htake 2 rfl (by kernel_rfl) (y_loadAB rfl z_agg23 z_size23 rfl (by repeat (first | exact Mh | apply Mt)) (q_ld_b32_0_32 (by first | assumption | exact Tree.hash_len _)) (q_len_b32 (by first | assumption | exact Tree.hash_len _))) rfl rfl rfl (fun _ h => (h.sub (by first | exact S0 | exact S1 | repeat (first | exact S1 | exact S0 | apply S2 | apply S3)))) H7 ?_
  clear H7; intro a8 H8
  refine htake 4 rfl (by kernel_rfl) (y_move rfl rfl) rfl rfl rfl (fun _ h => (h.sub (by first | exact S0 | exact S1 | repeat (first | exact S1 | exact S0 | apply S2 | apply S3)))) H8 ?_
  clear H8; intro a9 H9
  refine hgo2 3 7 rfl rfl (by kernel_rfl) ?_ ?_
  · skip
    refine st_buildSlice rfl Tryd.underlying24 z_size69 z_zero69 rfl rfl rfl (show _ = some ([] : List Value) from rfl) rfl rfl rfl H9 ?_
    clear H9; intro b10 a10 wx10 H10
    refine hfinA H10.sep ?_
    refine hgo2 5 7 rfl rfl (by kernel_rfl) ?_ ?_
    · skip
      replace H10 := H10.asRow (b := b10) (size := 4) (m := 0) (by repeat (first | exact Uh | apply Ut)) rfl (by unfold maxLen; omega)
      refine st_append rfl z_slice24 z_notint24 rfl rfl (fun _ => (by repeat (first | exact Uh | apply Ut))) (fun w hs => Src.slice ((rd_old hR (by simp)) w hs) (Inbox.ic_len _) (Tree.ic_cell _)) (by unfold maxLen at *; first | omega | (simp only [List.length_cons, List.length_nil, List.length_append, List.length_map]; omega)) (by omega) rfl rfl rfl H10 ?_
      clear H10; intro v11 a11 wx11 hnil11 H11
      obtain ⟨ArN, crN, hvrN, hRrN, hmrN⟩ := row_shape (v := v11) H11.sep (by repeat (first | exact Mh | apply Mt))
      subst hvrN
      simp only [List.nil_append, Nat.zero_add] at H11
      refine hfinA H11.sep ?_
      refine htake 6 rfl (by kernel_rfl) (y_build rfl z_zeroN26 z_places26 rfl (lay_1 (off := 0) (n := 35) rfl (q_len_c2b32c1 (by first | assumption | exact Tree.hash_len _)) (by decide) q_spl_c2b32c1_0_c1 (lay_1 (off := 1) (n := 35) rfl (q_len_c2b32c1 (by first | assumption | exact Tree.hash_len _)) (by decide) q_spl_c2b32c1_1_c1 (lay_f (off := 2) (z := 32) (n := 35) rfl (agg_cells _) (q_len_b32 (by first | assumption | exact Tree.hash_len _)) (q_len_c2b32c1 (by first | assumption | exact Tree.hash_len _)) (by decide) (q_spl_c2b32c1_2_b32 (by first | assumption | exact Tree.hash_len _) (by first | assumption | exact Tree.hash_len _)) (lay_1 (off := 34) (n := 35) rfl (q_len_c2b32c1 (by first | assumption | exact Tree.hash_len _)) (by decide) (q_spl_c2b32c1_34_c1 (by first | assumption | exact Tree.hash_len _)) lay_n (by rfl))) (by rfl)) (by rfl))) rfl rfl rfl (fun _ h => (h.sub (by first | exact S0 | exact S1 | repeat (first | exact S1 | exact S0 | apply S2 | apply S3)))) H11 ?_
      clear H11; intro a12 H12
      refine hgo 7 rfl (by kernel_rfl) ?_
      refine st_alloc rfl z_zeroN26 rfl rfl rfl H12 ?_
      clear H12; intro b13 a13 wx13 H13
      refine hfinA H13.sep ?_
      refine hgo 8 rfl (by kernel_rfl) ?_
      refine st_storeN rfl z_size26 rfl rfl (agg_cells _) (by repeat (first | exact Uh | apply Ut)) (q_one_c2b32c1 rfl rfl rfl) (q_len_c2b32c1 (by first | assumption | exact Tree.hash_len _)) (q_len_c2b32c1 (by first | assumption | exact Tree.hash_len _)) (q_spl_c2b32c1_0_c2b32c1 (by first | assumption | exact Tree.hash_len _) (by first | assumption | exact Tree.hash_len _)) (by decide) rfl rfl H13 ?_
      clear H13; intro wx14 H14
      refine hfinA H14.sep ?_
      refine hdone (by kernel_rfl) ?_
      refine then_n ?_
      refine wp_seq ?_
      refine reg ?_
      refine plain (y_loadAB rfl z_agg26 z_size26 rfl (by repeat (first | exact Mh | apply Mt)) (q_ld_c2b32c1_0_35 (by first | assumption | exact Tree.hash_len _)) (q_len_c2b32c1 (by first | assumption | exact Tree.hash_len _))) rfl rfl rfl H14 ?_
      clear H14; intro a15 H15
      refine st_callg rfl z_call9 rfl rfl rfl rfl H15 (thash (⟨⟨number, salt, p, its⟩, ArN, crN⟩ : Inbox.BA) ⟨hnu, hsa, hpl, hit, hib⟩ (show its.length ≤ _ by omega) (Rd.ofSep (rd_row (by repeat (first | exact Mh | apply Mt))) H15.sep) (hG.frm H15.sep.frm (by simp))) ?_
      clear H15; intro a16 wx16 H16
      refine plain (y_move rfl rfl) rfl rfl rfl H16 ?_
      clear H16; intro a17 H17
      refine plain (y_extract rfl rfl rfl) rfl rfl rfl H17 ?_
      clear H17; intro a18 H18
      refine plain (y_extract rfl rfl rfl) rfl rfl rfl H18 ?_
      clear H18; intro a19 H19
      refine st_alloc rfl z_zeroN23 rfl rfl rfl H19 ?_
      clear H19; intro b20 a20 wx20 H20
      refine st_storeN rfl z_size23 rfl rfl (agg_cells _) (by repeat (first | exact Uh | apply Ut)) q_one_b32 (q_len_b32 (by first | assumption | exact Tree.hash_len _)) (q_len_b32 (by first | assumption | exact Tree.hash_len _)) (q_spl_b32_0_b32 (by first | assumption | exact Tree.hash_len _) (by first | assumption | exact Tree.hash_len _)) (by decide) rfl rfl H20 ?_
      clear H20; intro wx21 H21
      refine plain (y_assign rfl rfl) rfl rfl rfl H21 ?_
      clear H21; intro a22 H22
      refine fin ?_
      refine then_n ?_
      refine wp_seq ?_
      refine hreg [It.blk b20 23 ((Tree.hash ⟨number, salt, p, its⟩).1.map u8), It.blk b13 26 (Inbox.BA.cells (⟨⟨number, salt, p, its⟩, ArN, crN⟩ : Inbox.BA))] (fun _ h => (h.sub (by first | exact S0 | exact S1 | repeat (first | exact S1 | exact S0 | apply S2 | apply S3)))) (by kernel_rfl) H22 ?_
      clear H22; intro wx23 H23
      refine htake 0 rfl (by kernel_rfl) (y_loadAB rfl z_agg26 z_size26 rfl (by repeat (first | exact Mh | apply Mt)) (q_ld_c2b32c1_0_35 (by first | assumption | exact Tree.hash_len _)) (q_len_c2b32c1 (by first | assumption | exact Tree.hash_len _))) rfl rfl rfl (fun _ h => (h.sub (by first | exact S0 | exact S1 | repeat (first | exact S1 | exact S0 | apply S2 | apply S3)))) H23 ?_
      clear H23; intro a24 H24
      refine htake 1 rfl (by kernel_rfl) (y_loadAB rfl z_agg23 z_size23 rfl (by repeat (first | exact Mh | apply Mt)) (q_ld_b32_0_32 (by first | assumption | exact Tree.hash_len _)) (q_len_b32 (by first | assumption | exact Tree.hash_len _))) rfl rfl rfl (fun _ h => (h.sub (by first | exact S0 | exact S1 | repeat (first | exact S1 | exact S0 | apply S2 | apply S3)))) H24 ?_
      clear H24; intro a25 H25
      refine htake 2 rfl (by kernel_rfl) (y_move rfl rfl) rfl rfl rfl (fun _ h => (h.sub (by first | exact S0 | exact S1 | repeat (first | exact S1 | exact S0 | apply S2 | apply S3)))) H25 ?_
      clear H25; intro a26 H26
      refine hgo 3 rfl (by kernel_rfl) ?_
      refine st_storeN rfl z_size26 rfl rfl (agg_cells _) (by repeat (first | exact Uh | apply Ut)) (q_one_c2b32c1 rfl rfl rfl) (q_len_c2b32c1 (by first | assumption | exact Tree.hash_len _)) (q_len_c2b32c1 (by first | assumption | exact Tree.hash_len _)) (q_spl_c2b32c1_0_c2b32c1 (by first | assumption | exact Tree.hash_len _) (by first | assumption | exact Tree.hash_len _)) (by decide) rfl rfl H26 ?_
      clear H26; intro wx27 H27
      refine hfinA H27.sep ?_
      refine hgo 4 rfl (by kernel_rfl) ?_
      refine st_storeN rfl z_size23 rfl rfl (agg_cells _) (by repeat (first | exact Uh | apply Ut)) q_one_b32 (q_len_b32 (by first | assumption | exact Tree.hash_len _)) (q_len_b32 (by first | assumption | exact Tree.hash_len _)) (q_spl_b32_0_b32 (by first | assumption | exact Tree.hash_len _) (by first | assumption | exact Tree.hash_len _)) (by decide) rfl rfl H27 ?_
      clear H27; intro wx28 H28
      refine hfinA H28.sep ?_
      refine htake 5 rfl (by kernel_rfl) (y_assign rfl rfl) rfl rfl rfl (fun _ h => (h.sub (by first | exact S0 | exact S1 | repeat (first | exact S1 | exact S0 | apply S2 | apply S3)))) H28 ?_
      clear H28; intro a29 H29
      refine hdone (by kernel_rfl) ?_
      refine then_n ?_
      refine wp_ret ?_
      -- return 1
      refine retcct rfl H29 rfl z_agg26 z_size26 (by repeat (first | exact Mh | apply Mt)) (q_len_c2b32c1 (by first | assumption | exact Tree.hash_len _)) rfl z_agg23 z_size23 (by repeat (first | exact Mh | apply Mt)) (q_len_b32 (by first | assumption | exact Tree.hash_len _)) rfl ?_
      exact ⟨_, _, rfl, ⟨ArN, crN, rfl, rfl⟩, (H29.only (is := [It.row 69 4 (.slice ArN its.length crN) its.length (Inbox.ic its)]) (.cons (by repeat (first | exact Ph | apply Pt)) (.nil _))).sep⟩
    · skip
      refine st_alloc rfl z_zeroN26 rfl rfl rfl H10 ?_
      clear H10; intro b30 a30 wx30 H30
      refine hfinA H30.sep ?_
      refine hgo 5 rfl (by kernel_rfl) ?_
      replace H30 := H30.asRow (b := b10) (size := 4) (m := 0) (by repeat (first | exact Uh | apply Ut)) rfl (by unfold maxLen; omega)
      refine st_append rfl z_slice24 z_notint24 rfl rfl (fun _ => (by repeat (first | exact Uh | apply Ut))) (fun w hs => Src.slice ((rd_old hR (by simp)) w hs) (Inbox.ic_len _) (Tree.ic_cell _)) (by unfold maxLen at *; first | omega | (simp only [List.length_cons, List.length_nil, List.length_append, List.length_map]; omega)) (by omega) rfl rfl rfl H30 ?_
      clear H30; intro v31 a31 wx31 hnil31 H31
      obtain ⟨ArN, crN, hvrN, hRrN, hmrN⟩ := row_shape (v := v31) H31.sep (by repeat (first | exact Mh | apply Mt))
      subst hvrN
      simp only [List.nil_append, Nat.zero_add] at H31
      refine hfinA H31.sep ?_
      refine htake 6 rfl (by kernel_rfl) (y_build rfl z_zeroN26 z_places26 rfl (lay_1 (off := 0) (n := 35) rfl (q_len_c2b32c1 (by first | assumption | exact Tree.hash_len _)) (by decide) q_spl_c2b32c1_0_c1 (lay_1 (off := 1) (n := 35) rfl (q_len_c2b32c1 (by first | assumption | exact Tree.hash_len _)) (by decide) q_spl_c2b32c1_1_c1 (lay_f (off := 2) (z := 32) (n := 35) rfl (agg_cells _) (q_len_b32 (by first | assumption | exact Tree.hash_len _)) (q_len_c2b32c1 (by first | assumption | exact Tree.hash_len _)) (by decide) (q_spl_c2b32c1_2_b32 (by first | assumption | exact Tree.hash_len _) (by first | assumption | exact Tree.hash_len _)) (lay_1 (off := 34) (n := 35) rfl (q_len_c2b32c1 (by first | assumption | exact Tree.hash_len _)) (by decide) (q_spl_c2b32c1_34_c1 (by first | assumption | exact Tree.hash_len _)) lay_n (by rfl))) (by rfl)) (by rfl))) rfl rfl rfl (fun _ h => (h.sub (by first | exact S0 | exact S1 | repeat (first | exact S1 | exact S0 | apply S2 | apply S3)))) H31 ?_
      clear H31; intro a32 H32
      refine hgo 8 rfl (by kernel_rfl) ?_
      refine st_storeN rfl z_size26 rfl rfl (agg_cells _) (by repeat (first | exact Uh | apply Ut)) (q_one_c2b32c1 rfl rfl rfl) (q_len_c2b32c1 (by first | assumption | exact Tree.hash_len _)) (q_len_c2b32c1 (by first | assumption | exact Tree.hash_len _)) (q_spl_c2b32c1_0_c2b32c1 (by first | assumption | exact Tree.hash_len _) (by first | assumption | exact Tree.hash_len _)) (by decide) rfl rfl H32 ?_
      clear H32; intro wx33 H33
      refine hfinA H33.sep ?_
      refine hdone (by kernel_rfl) ?_
      refine then_n ?_
      refine wp_seq ?_
      refine reg ?_
      refine plain (y_loadAB rfl z_agg26 z_size26 rfl (by repeat (first | exact Mh | apply Mt)) (q_ld_c2b32c1_0_35 (by first | assumption | exact Tree.hash_len _)) (q_len_c2b32c1 (by first | assumption | exact Tree.hash_len _))) rfl rfl rfl H33 ?_
      clear H33; intro a34 H34
      refine st_callg rfl z_call9 rfl rfl rfl rfl H34 (thash (⟨⟨number, salt, p, its⟩, ArN, crN⟩ : Inbox.BA) ⟨hnu, hsa, hpl, hit, hib⟩ (show its.length ≤ _ by omega) (Rd.ofSep (rd_row (by repeat (first | exact Mh | apply Mt))) H34.sep) (hG.frm H34.sep.frm (by simp))) ?_
      clear H34; intro a35 wx35 H35
      refine plain (y_move rfl rfl) rfl rfl rfl H35 ?_
      clear H35; intro a36 H36
      refine plain (y_extract rfl rfl rfl) rfl rfl rfl H36 ?_
      clear H36; intro a37 H37
      refine plain (y_extract rfl rfl rfl) rfl rfl rfl H37 ?_
      clear H37; intro a38 H38
      refine st_alloc rfl z_zeroN23 rfl rfl rfl H38 ?_
      clear H38; intro b39 a39 wx39 H39
      refine st_storeN rfl z_size23 rfl rfl (agg_cells _) (by repeat (first | exact Uh | apply Ut)) q_one_b32 (q_len_b32 (by first | assumption | exact Tree.hash_len _)) (q_len_b32 (by first | assumption | exact Tree.hash_len _)) (q_spl_b32_0_b32 (by first | assumption | exact Tree.hash_len _) (by first | assumption | exact Tree.hash_len _)) (by decide) rfl rfl H39 ?_
      clear H39; intro wx40 H40
      refine plain (y_assign rfl rfl) rfl rfl rfl H40 ?_
      clear H40; intro a41 H41
      refine fin ?_
      refine then_n ?_
      refine wp_seq ?_
      refine hreg [It.blk b39 23 ((Tree.hash ⟨number, salt, p, its⟩).1.map u8), It.blk b30 26 (Inbox.BA.cells (⟨⟨number, salt, p, its⟩, ArN, crN⟩ : Inbox.BA))] (fun _ h => (h.sub (by first | exact S0 | exact S1 | repeat (first | exact S1 | exact S0 | apply S2 | apply S3)))) (by kernel_rfl) H41 ?_
      clear H41; intro wx42 H42
      refine htake 0 rfl (by kernel_rfl) (y_loadAB rfl z_agg26 z_size26 rfl (by repeat (first | exact Mh | apply Mt)) (q_ld_c2b32c1_0_35 (by first | assumption | exact Tree.hash_len _)) (q_len_c2b32c1 (by first | assumption | exact Tree.hash_len _))) rfl rfl rfl (fun _ h => (h.sub (by first | exact S0 | exact S1 | repeat (first | exact S1 | exact S0 | apply S2 | apply S3)))) H42 ?_
      clear H42; intro a43 H43
      refine htake 1 rfl (by kernel_rfl) (y_loadAB rfl z_agg23 z_size23 rfl (by repeat (first | exact Mh | apply Mt)) (q_ld_b32_0_32 (by first | assumption | exact Tree.hash_len _)) (q_len_b32 (by first | assumption | exact Tree.hash_len _))) rfl rfl rfl (fun _ h => (h.sub (by first | exact S0 | exact S1 | repeat (first | exact S1 | exact S0 | apply S2 | apply S3)))) H43 ?_
      clear H43; intro a44 H44
      refine htake 2 rfl (by kernel_rfl) (y_move rfl rfl) rfl rfl rfl (fun _ h => (h.sub (by first | exact S0 | exact S1 | repeat (first | exact S1 | exact S0 | apply S2 | apply S3)))) H44 ?_
      clear H44; intro a45 H45
      refine hgo 3 rfl (by kernel_rfl) ?_
      refine st_storeN rfl z_size26 rfl rfl (agg_cells _) (by repeat (first | exact Uh | apply Ut)) (q_one_c2b32c1 rfl rfl rfl) (q_len_c2b32c1 (by first | assumption | exact Tree.hash_len _)) (q_len_c2b32c1 (by first | assumption | exact Tree.hash_len _)) (q_spl_c2b32c1_0_c2b32c1 (by first | assumption | exact Tree.hash_len _) (by first | assumption | exact Tree.hash_len _)) (by decide) rfl rfl H45 ?_
      clear H45; intro wx46 H46
      refine hfinA H46.sep ?_
      refine hgo 4 rfl (by kernel_rfl) ?_
      refine st_storeN rfl z_size23 rfl rfl (agg_cells _) (by repeat (first | exact Uh | apply Ut)) q_one_b32 (q_len_b32 (by first | assumption | exact Tree.hash_len _)) (q_len_b32 (by first | assumption | exact Tree.hash_len _)) (q_spl_b32_0_b32 (by first | assumption | exact Tree.hash_len _) (by first | assumption | exact Tree.hash_len _)) (by decide) rfl rfl H46 ?_
      clear H46; intro wx47 H47
      refine hfinA H47.sep ?_
      refine htake 5 rfl (by kernel_rfl) (y_assign rfl rfl) rfl rfl rfl (fun _ h => (h.sub (by first | exact S0 | exact S1 | repeat (first | exact S1 | exact S0 | apply S2 | apply S3)))) H47 ?_
      clear H47; intro a48 H48
      refine hdone (by kernel_rfl) ?_
      refine then_n ?_
      refine wp_ret ?_
      -- return 2
      refine retcct rfl H48 rfl z_agg26 z_size26 (by repeat (first | exact Mh | apply Mt)) (q_len_c2b32c1 (by first | assumption | exact Tree.hash_len _)) rfl z_agg23 z_size23 (by repeat (first | exact Mh | apply Mt)) (q_len_b32 (by first | assumption | exact Tree.hash_len _)) rfl ?_
      exact ⟨_, _, rfl, ⟨ArN, crN, rfl, rfl⟩, (H48.only (is := [It.row 69 4 (.slice ArN its.length crN) its.length (Inbox.ic its)]) (.cons (by repeat (first | exact Ph | apply Pt)) (.nil _))).sep⟩
  · skip
    refine st_alloc rfl z_zeroN26 rfl rfl rfl H9 ?_
    clear H9; intro b49 a49 wx49 H49
    refine hfinA H49.sep ?_
    refine hgo 3 rfl (by kernel_rfl) ?_
    refine st_buildSlice rfl Tryd.underlying24 z_size69 z_zero69 rfl rfl rfl (show _ = some ([] : List Value) from rfl) rfl rfl rfl H49 ?_
    clear H49; intro b50 a50 wx50 H50
    refine hfinA H50.sep ?_
    refine hgo 5 rfl (by kernel_rfl) ?_
    replace H50 := H50.asRow (b := b50) (size := 4) (m := 0) (by repeat (first | exact Uh | apply Ut)) rfl (by unfold maxLen; omega)
    refine st_append rfl z_slice24 z_notint24 rfl rfl (fun _ => (by repeat (first | exact Uh | apply Ut))) (fun w hs => Src.slice ((rd_old hR (by simp)) w hs) (Inbox.ic_len _) (Tree.ic_cell _)) (by unfold maxLen at *; first | omega | (simp only [List.length_cons, List.length_nil, List.length_append, List.length_map]; omega)) (by omega) rfl rfl rfl H50 ?_
    clear H50; intro v51 a51 wx51 hnil51 H51
    obtain ⟨ArN, crN, hvrN, hRrN, hmrN⟩ := row_shape (v := v51) H51.sep (by repeat (first | exact Mh | apply Mt))
    subst hvrN
    simp only [List.nil_append, Nat.zero_add] at H51
    refine hfinA H51.sep ?_
    refine htake 6 rfl (by kernel_rfl) (y_build rfl z_zeroN26 z_places26 rfl (lay_1 (off := 0) (n := 35) rfl (q_len_c2b32c1 (by first | assumption | exact Tree.hash_len _)) (by decide) q_spl_c2b32c1_0_c1 (lay_1 (off := 1) (n := 35) rfl (q_len_c2b32c1 (by first | assumption | exact Tree.hash_len _)) (by decide) q_spl_c2b32c1_1_c1 (lay_f (off := 2) (z := 32) (n := 35) rfl (agg_cells _) (q_len_b32 (by first | assumption | exact Tree.hash_len _)) (q_len_c2b32c1 (by first | assumption | exact Tree.hash_len _)) (by decide) (q_spl_c2b32c1_2_b32 (by first | assumption | exact Tree.hash_len _) (by first | assumption | exact Tree.hash_len _)) (lay_1 (off := 34) (n := 35) rfl (q_len_c2b32c1 (by first | assumption | exact Tree.hash_len _)) (by decide) (q_spl_c2b32c1_34_c1 (by first | assumption | exact Tree.hash_len _)) lay_n (by rfl))) (by rfl)) (by rfl))) rfl rfl rfl (fun _ h => (h.sub (by first | exact S0 | exact S1 | repeat (first | exact S1 | exact S0 | apply S2 | apply S3)))) H51 ?_
    clear H51; intro a52 H52
    refine hgo 8 rfl (by kernel_rfl) ?_
    refine st_storeN rfl z_size26 rfl rfl (agg_cells _) (by repeat (first | exact Uh | apply Ut)) (q_one_c2b32c1 rfl rfl rfl) (q_len_c2b32c1 (by first | assumption | exact Tree.hash_len _)) (q_len_c2b32c1 (by first | assumption | exact Tree.hash_len _)) (q_spl_c2b32c1_0_c2b32c1 (by first | assumption | exact Tree.hash_len _) (by first | assumption | exact Tree.hash_len _)) (by decide) rfl rfl H52 ?_
    clear H52; intro wx53 H53
    refine hfinA H53.sep ?_
    refine hdone (by kernel_rfl) ?_
    refine then_n ?_
    refine wp_seq ?_
    refine reg ?_
    refine plain (y_loadAB rfl z_agg26 z_size26 rfl (by repeat (first | exact Mh | apply Mt)) (q_ld_c2b32c1_0_35 (by first | assumption | exact Tree.hash_len _)) (q_len_c2b32c1 (by first | assumption | exact Tree.hash_len _))) rfl rfl rfl H53 ?_
    clear H53; intro a54 H54
    refine st_callg rfl z_call9 rfl rfl rfl rfl H54 (thash (⟨⟨number, salt, p, its⟩, ArN, crN⟩ : Inbox.BA) ⟨hnu, hsa, hpl, hit, hib⟩ (show its.length ≤ _ by omega) (Rd.ofSep (rd_row (by repeat (first | exact Mh | apply Mt))) H54.sep) (hG.frm H54.sep.frm (by simp))) ?_
    clear H54; intro a55 wx55 H55
    refine plain (y_move rfl rfl) rfl rfl rfl H55 ?_
    clear H55; intro a56 H56
    refine plain (y_extract rfl rfl rfl) rfl rfl rfl H56 ?_
    clear H56; intro a57 H57
    refine plain (y_extract rfl rfl rfl) rfl rfl rfl H57 ?_
    clear H57; intro a58 H58
    refine st_alloc rfl z_zeroN23 rfl rfl rfl H58 ?_
    clear H58; intro b59 a59 wx59 H59
    refine st_storeN rfl z_size23 rfl rfl (agg_cells _) (by repeat (first | exact Uh | apply Ut)) q_one_b32 (q_len_b32 (by first | assumption | exact Tree.hash_len _)) (q_len_b32 (by first | assumption | exact Tree.hash_len _)) (q_spl_b32_0_b32 (by first | assumption | exact Tree.hash_len _) (by first | assumption | exact Tree.hash_len _)) (by decide) rfl rfl H59 ?_
    clear H59; intro wx60 H60
    refine plain (y_assign rfl rfl) rfl rfl rfl H60 ?_
    clear H60; intro a61 H61
    refine fin ?_
    refine then_n ?_
    refine wp_seq ?_
    refine hreg [It.blk b59 23 ((Tree.hash ⟨number, salt, p, its⟩).1.map u8), It.blk b49 26 (Inbox.BA.cells (⟨⟨number, salt, p, its⟩, ArN, crN⟩ : Inbox.BA))] (fun _ h => (h.sub (by first | exact S0 | exact S1 | repeat (first | exact S1 | exact S0 | apply S2 | apply S3)))) (by kernel_rfl) H61 ?_
    clear H61; intro wx62 H62
    refine htake 0 rfl (by kernel_rfl) (y_loadAB rfl z_agg26 z_size26 rfl (by repeat (first | exact Mh | apply Mt)) (q_ld_c2b32c1_0_35 (by first | assumption | exact Tree.hash_len _)) (q_len_c2b32c1 (by first | assumption | exact Tree.hash_len _))) rfl rfl rfl (fun _ h => (h.sub (by first | exact S0 | exact S1 | repeat (first | exact S1 | exact S0 | apply S2 | apply S3)))) H62 ?_
    clear H62; intro a63 H63
    refine htake 1 rfl (by kernel_rfl) (y_loadAB rfl z_agg23 z_size23 rfl (by repeat (first | exact Mh | apply Mt)) (q_ld_b32_0_32 (by first | assumption | exact Tree.hash_len _)) (q_len_b32 (by first | assumption | exact Tree.hash_len _))) rfl rfl rfl (fun _ h => (h.sub (by first | exact S0 | exact S1 | repeat (first | exact S1 | exact S0 | apply S2 | apply S3)))) H63 ?_
    clear H63; intro a64 H64
    refine htake 2 rfl (by kernel_rfl) (y_move rfl rfl) rfl rfl rfl (fun _ h => (h.sub (by first | exact S0 | exact S1 | repeat (first | exact S1 | exact S0 | apply S2 | apply S3)))) H64 ?_
    clear H64; intro a65 H65
    refine hgo 3 rfl (by kernel_rfl) ?_
    refine st_storeN rfl z_size26 rfl rfl (agg_cells _) (by repeat (first | exact Uh | apply Ut)) (q_one_c2b32c1 rfl rfl rfl) (q_len_c2b32c1 (by first | assumption | exact Tree.hash_len _)) (q_len_c2b32c1 (by first | assumption | exact Tree.hash_len _)) (q_spl_c2b32c1_0_c2b32c1 (by first | assumption | exact Tree.hash_len _) (by first | assumption | exact Tree.hash_len _)) (by decide) rfl rfl H65 ?_
    clear H65; intro wx66 H66
    refine hfinA H66.sep ?_
    refine hgo 4 rfl (by kernel_rfl) ?_
    refine st_storeN rfl z_size23 rfl rfl (agg_cells _) (by repeat (first | exact Uh | apply Ut)) q_one_b32 (q_len_b32 (by first | assumption | exact Tree.hash_len _)) (q_len_b32 (by first | assumption | exact Tree.hash_len _)) (q_spl_b32_0_b32 (by first | assumption | exact Tree.hash_len _) (by first | assumption | exact Tree.hash_len _)) (by decide) rfl rfl H66 ?_
    clear H66; intro wx67 H67
    refine hfinA H67.sep ?_
    refine htake 5 rfl (by kernel_rfl) (y_assign rfl rfl) rfl rfl rfl (fun _ h => (h.sub (by first | exact S0 | exact S1 | repeat (first | exact S1 | exact S0 | apply S2 | apply S3)))) H67 ?_
    clear H67; intro a68 H68
    refine hdone (by kernel_rfl) ?_
    refine then_n ?_
    refine wp_ret ?_
    -- return 3
    refine retcct rfl H68 rfl z_agg26 z_size26 (by repeat (first | exact Mh | apply Mt)) (q_len_c2b32c1 (by first | assumption | exact Tree.hash_len _)) rfl z_agg23 z_size23 (by repeat (first | exact Mh | apply Mt)) (q_len_b32 (by first | assumption | exact Tree.hash_len _)) rfl ?_
    exact ⟨_, _, rfl, ⟨ArN, crN, rfl, rfl⟩, (H68.only (is := [It.row 69 4 (.slice ArN its.length crN) its.length (Inbox.ic its)]) (.cons (by repeat (first | exact Ph | apply Pt)) (.nil _))).sep⟩
set_option maxRecDepth 100000 in
set_option maxHeartbeats 1000000 in
theorem tcopied (x : Inbox.BA) (wx : Tree.W0 x) (hib : x.b.items.length * 40 ≤ 140737488355328) {w : World} (hR : Rd w x.A (Inbox.ic x.b.items)) : Calls Tryd.prog 40 #[.agg (Inbox.BA.cells x).toArray] w (Post [] w fun r l' => ∃ A' c', r = .agg (Inbox.BA.cells (⟨x.b, A', c'⟩ : Inbox.BA)).toArray ∧ l' = [It.row 69 4 (.slice A' x.b.items.length c') x.b.items.length (Inbox.ic x.b.items)]) := by
  have hpl := wx.parent
  have lz32 : (List.replicate 32 (0 : UInt8)).length = 32 := List.length_replicate
  have lz0 := wx.parent
  refine enterL (args := [.agg (Inbox.BA.cells x).toArray]) Tryd.func40 rfl rfl (l := []) (Sep.refl _) ?_
  intro a0 H0
  refine wp_seq ?_
  refine reg ?_
  refine st_box rfl rfl (agg_cells _) rfl rfl rfl H0 ?_
  clear H0; intro b1 a1 wx1 H1
  refine st_alloc rfl z_zeroN26 rfl rfl rfl H1 ?_
  clear H1; intro b2 a2 wx2 H2
  refine fin ?_
  refine then_n ?_
  refine wp_seq ?_
  refine reg ?_
  refine st_buildSlice rfl Tryd.underlying24 z_size69 z_zero69 rfl rfl rfl (show _ = some ([] : List Value) from rfl) rfl rfl rfl H2 ?_
  clear H2; intro b3 a3 wx3 H3
  refine plain (y_fieldB rfl z_field26_3 rfl (by first | (simp only [Nat.zero_add, Nat.add_zero, Nat.reduceAdd]; rfl) | rfl)) rfl rfl rfl H3 ?_
  clear H3; intro a4 H4
  refine plain (y_loadB rfl z_agg24 rfl (by repeat (first | exact Mh | apply Mt)) (q_ix_c2b32c1_34 (by assumption))) rfl rfl rfl H4 ?_
  clear H4; intro a5 H5
  replace H5 := H5.asRow (b := b3) (size := 4) (m := 0) (by repeat (first | exact Uh | apply Ut)) rfl (by unfold maxLen; omega)
  refine st_append rfl z_slice24 z_notint24 rfl rfl (fun _ => (by repeat (first | exact Uh | apply Ut))) (fun w hs => Src.slice ((rd_old hR (by simp)) w hs) (Inbox.ic_len _) (Tree.ic_cell _)) (by unfold maxLen at *; first | omega | (simp only [List.length_cons, List.length_nil, List.length_append, List.length_map]; omega)) (by omega) rfl rfl rfl H5 ?_
  clear H5; intro v6 a6 wx6 hnil6 H6
  obtain ⟨ArN, crN, hvrN, hRrN, hmrN⟩ := row_shape (v := v6) H6.sep (by repeat (first | exact Mh | apply Mt))
  subst hvrN
  simp only [List.nil_append, Nat.zero_add] at H6
  refine plain (y_fieldB rfl z_field26_3 rfl (by first | (simp only [Nat.zero_add, Nat.add_zero, Nat.reduceAdd]; rfl) | rfl)) rfl rfl rfl H6 ?_
  clear H6; intro a7 H7
  refine st_store1N rfl z_size24 rfl rfl rfl (by repeat (first | exact Uh | apply Ut)) (q_len_c2b32c1 (by assumption)) (q_set_c2b32c1_34 (by assumption)) (by decide) rfl rfl H7 ?_
  clear H7; intro wx8 H8
  refine fin ?_
  refine then_n ?_
  refine wp_seq ?_
  refine reg ?_
  refine plain (y_loadAB rfl z_agg26 z_size26 rfl (by repeat (first | exact Mh | apply Mt)) (q_ld_c2b32c1_0_35 (by assumption)) (q_len_c2b32c1 (by assumption))) rfl rfl rfl H8 ?_
  clear H8; intro a9 H9
  refine st_storeN rfl z_size26 rfl rfl (agg_cells _) (by repeat (first | exact Uh | apply Ut)) (q_one_c2b32c1 rfl rfl rfl) (q_len_c2b32c1 (by assumption)) (q_len_c2b32c1 (by assumption)) (q_spl_c2b32c1_0_c2b32c1 (by assumption) (by assumption)) (by decide) rfl rfl H9 ?_
  clear H9; intro wx10 H10
  refine fin ?_
  refine then_n ?_
  refine wp_ret ?_
  -- return 1
  refine retc rfl H10 rfl z_agg26 z_size26 (by repeat (first | exact Mh | apply Mt)) (q_len_c2b32c1 (by assumption)) ?_
  exact ⟨_, _, rfl, ⟨ArN, crN, rfl, rfl⟩, (H10.only (is := [It.row 69 4 (.slice ArN x.b.items.length crN) x.b.items.length (Inbox.ic x.b.items)]) (.cons (by repeat (first | exact Ph | apply Pt)) (.nil _))).sep⟩

end Go.Proofs.YtlhddgkbbdfacaaDoor.C_Nx

set_option linter.unusedVariables false
set_option linter.unusedSimpArgs false
namespace Go.Proofs.YtlhddgkbbdfacaaDoor.C_Sm
open Go.Sx Go.RowKit

theorem z_field77_0 : fieldB Tryd.prog 77 0 = some 0 := by kernel_rfl
theorem z_agg36 : aggB Tryd.prog 36 = some false := by kernel_rfl
theorem z_call21 : callB Tryd.prog 21 = true := by kernel_rfl
theorem z_field77_2 : fieldB Tryd.prog 77 2 = some 2 := by kernel_rfl
theorem z_agg3 : aggB Tryd.prog 3 = some false := by kernel_rfl
theorem z_field77_3 : fieldB Tryd.prog 77 3 = some 3 := by kernel_rfl

set_option maxRecDepth 100000 in
set_option maxHeartbeats 1000000 in
theorem theight (X : List Inbox.BA) (hX : Tree.Wfs X) (h0 : 0 < X.length) (hlen : X.length ≤ 4097) (dp de : Int) (c : Nat) (v u : Value) {w : World} (hc_ : (It.blk c 77 [v, u, i64 dp, i64 de]).P w) (hv_ : (It.row 26 35 v X.length (Inbox.bc X)).P w)  : Calls Tryd.prog 21 #[.pointer (some ⟨c, 0, none⟩)] w (Gives (.int .i64 ((X.length : Int) - 1)) [] w) := by
  obtain ⟨A1, c1, rfl, hRx, hmx⟩ := Row.rd hv_
  have lz32 : (List.replicate 32 (0 : UInt8)).length = 32 := List.length_replicate
  refine enterL (args := [.pointer (some ⟨c, 0, none⟩)]) Tryd.func21 rfl rfl (l := []) (Sep.refl _) ?_
  intro a0 H0
  refine wp_seq ?_
  refine reg ?_
  refine plain (y_assign rfl rfl) rfl rfl rfl H0 ?_
  clear H0; intro a1 H1
  refine fin ?_
  refine then_n ?_
  refine wp_seq ?_
  refine wp_seq ?_
  refine reg ?_
  refine plain (y_move rfl rfl) rfl rfl rfl H1 ?_
  clear H1; intro a2 H2
  refine plain (y_peql rfl Tryd.underlying33 rfl rfl) rfl rfl rfl H2 ?_
  clear H2; intro a3 H3
  refine fin ?_
  refine then_n ?_
  refine cnd_f H3 rfl ?_
  refine wp_skip ?_
  refine then_n ?_
  refine wp_seq ?_
  refine reg ?_
  refine plain (y_move rfl rfl) rfl rfl rfl H3 ?_
  clear H3; intro a5 H5
  refine plain (y_nilCheck rfl rfl) rfl rfl rfl H5 ?_
  clear H5; intro a6 H6
  refine plain (y_fieldB rfl z_field77_0 rfl (by first | (simp only [Nat.zero_add, Nat.add_zero, Nat.reduceAdd]; rfl) | rfl)) rfl rfl rfl H6 ?_
  clear H6; intro a7 H7
  refine plain (y_loadO rfl z_agg36 rfl (blk_cell hc_ (by rfl)) (by simp)) rfl rfl rfl H7 ?_
  clear H7; intro a8 H8
  refine plain (y_len rfl Tryd.underlying36 rfl) rfl rfl rfl H8 ?_
  clear H8; intro a9 H9
  refine plain (y_sub rfl rfl rfl (by first | exact w64 (by omega) (by omega) | rfl)) rfl rfl rfl H9 ?_
  clear H9; intro a10 H10
  refine plain (y_assign rfl rfl) rfl rfl rfl H10 ?_
  clear H10; intro a11 H11
  refine fin ?_
  refine then_n ?_
  refine wp_ret ?_
  -- return 1
  refine ret1 rfl H11 rfl ?_
  exact ⟨_, [], rfl, ⟨rfl, rfl⟩, H11.sep.sub (List.nil_sublist _)⟩
set_option maxRecDepth 100000 in
set_option maxHeartbeats 1000000 in
theorem tfinal (X : List Inbox.BA) (hX : Tree.Wfs X) (h0 : 0 < X.length) (hlen : X.length ≤ 4097) (dp de : Int) (c : Nat) (v u : Value) (hdp : Note.I64 dp) (hdp0 : 0 ≤ dp) {w : World} (hc_ : (It.blk c 77 [v, u, i64 dp, i64 de]).P w) (hv_ : (It.row 26 35 v X.length (Inbox.bc X)).P w)  : Calls Tryd.prog 18 #[.pointer (some ⟨c, 0, none⟩)] w (Gives (.int .i64 (Tree.Chain.final (⟨Tree.bl X, dp, de⟩ : Tree.Chain))) [] w) := by
  have hdp2 := hdp.2
  have lz32 : (List.replicate 32 (0 : UInt8)).length = 32 := List.length_replicate
  refine enterL (args := [.pointer (some ⟨c, 0, none⟩)]) Tryd.func18 rfl rfl (l := []) (Sep.refl _) ?_
  intro a0 H0
  refine wp_seq ?_
  refine reg ?_
  refine plain (y_assign rfl rfl) rfl rfl rfl H0 ?_
  clear H0; intro a1 H1
  refine fin ?_
  refine then_n ?_
  refine wp_seq ?_
  refine wp_seq ?_
  refine reg ?_
  refine plain (y_move rfl rfl) rfl rfl rfl H1 ?_
  clear H1; intro a2 H2
  refine plain (y_peql rfl Tryd.underlying33 rfl rfl) rfl rfl rfl H2 ?_
  clear H2; intro a3 H3
  refine fin ?_
  refine then_n ?_
  refine cnd_f H3 rfl ?_
  refine wp_skip ?_
  refine then_n ?_
  refine wp_seq ?_
  refine qreg (by kernel_rfl) (by kernel_rfl) H3 ?_
  have F5 := H3.fr
  clear H3
  refine qplain (y_move rfl rfl) rfl rfl rfl F5 ?_
  clear F5; intro a6 H6
  refine qcallg rfl z_call21 rfl rfl rfl rfl H6 (fun w hs => (theight X hX h0 hlen dp de c v u (hs.keep hc_) (hs.keep hv_))) ?_
  clear H6; intro a7 H7
  refine qplain (y_move rfl rfl) rfl rfl rfl H7 ?_
  clear H7; intro a8 H8
  refine qplain (y_nilCheck rfl rfl) rfl rfl rfl H8 ?_
  clear H8; intro a9 H9
  refine qplain (y_fieldB rfl z_field77_2 rfl (by first | (simp only [Nat.zero_add, Nat.add_zero, Nat.reduceAdd]; rfl) | rfl)) rfl rfl rfl H9 ?_
  clear H9; intro a10 H10
  refine qplain (y_loadO rfl z_agg3 rfl (blk_cell hc_ (by rfl)) (by simp)) rfl rfl rfl H10 ?_
  clear H10; intro a11 H11
  refine qplain (y_sub rfl rfl rfl (by first | exact w64 (by omega) (by omega) | rfl)) rfl rfl rfl H11 ?_
  clear H11; intro a12 H12
  refine qplain (y_max2 rfl rfl rfl) rfl rfl rfl H12 ?_
  clear H12; intro a13 H13
  refine qplain (y_assign rfl rfl) rfl rfl rfl H13 ?_
  clear H13; intro a14 H14
  refine qfin H14 ?_
  clear H14; intro wx15 H15
  refine then_n ?_
  refine wp_ret ?_
  -- return 1
  refine ret1 rfl H15 rfl ?_
  exact ⟨_, [], rfl, ⟨by rw [Tree.final_max (by show 0 < (Tree.bl X).length; rw [Tree.bl_len]; exact h0)]; show _ = Value.int .i64 (max 0 (((Tree.bl X).length : Int) - 1 - dp)); rw [Tree.bl_len], rfl⟩, H15.sep.sub (List.nil_sublist _)⟩
set_option maxRecDepth 100000 in
set_option maxHeartbeats 1000000 in
theorem tdeepest (dp de : Int) (c : Nat) (v u : Value) {w : World} (hc_ : (It.blk c 77 [v, u, i64 dp, i64 de]).P w)  : Calls Tryd.prog 20 #[.pointer (some ⟨c, 0, none⟩)] w (Gives (.int .i64 de) [] w) := by
  have lz32 : (List.replicate 32 (0 : UInt8)).length = 32 := List.length_replicate
  refine enterL (args := [.pointer (some ⟨c, 0, none⟩)]) Tryd.func20 rfl rfl (l := []) (Sep.refl _) ?_
  intro a0 H0
  refine wp_seq ?_
  refine reg ?_
  refine plain (y_assign rfl rfl) rfl rfl rfl H0 ?_
  clear H0; intro a1 H1
  refine fin ?_
  refine then_n ?_
  refine wp_seq ?_
  refine wp_seq ?_
  refine reg ?_
  refine plain (y_move rfl rfl) rfl rfl rfl H1 ?_
  clear H1; intro a2 H2
  refine plain (y_peql rfl Tryd.underlying33 rfl rfl) rfl rfl rfl H2 ?_
  clear H2; intro a3 H3
  refine fin ?_
  refine then_n ?_
  refine cnd_f H3 rfl ?_
  refine wp_skip ?_
  refine then_n ?_
  refine wp_seq ?_
  refine reg ?_
  refine plain (y_move rfl rfl) rfl rfl rfl H3 ?_
  clear H3; intro a5 H5
  refine plain (y_nilCheck rfl rfl) rfl rfl rfl H5 ?_
  clear H5; intro a6 H6
  refine plain (y_fieldB rfl z_field77_3 rfl (by first | (simp only [Nat.zero_add, Nat.add_zero, Nat.reduceAdd]; rfl) | rfl)) rfl rfl rfl H6 ?_
  clear H6; intro a7 H7
  refine plain (y_loadO rfl z_agg3 rfl (blk_cell hc_ (by rfl)) (by simp)) rfl rfl rfl H7 ?_
  clear H7; intro a8 H8
  refine plain (y_assign rfl rfl) rfl rfl rfl H8 ?_
  clear H8; intro a9 H9
  refine fin ?_
  refine then_n ?_
  refine wp_ret ?_
  -- return 1
  refine ret1 rfl H9 rfl ?_
  exact ⟨_, [], rfl, ⟨rfl, rfl⟩, H9.sep.sub (List.nil_sublist _)⟩
end Go.Proofs.YtlhddgkbbdfacaaDoor.C_Sm

set_option linter.unusedVariables false
set_option linter.unusedSimpArgs false
namespace Go.Proofs.YtlhddgkbbdfacaaDoor.C_New
open Go.Sx Go.RowKit Go.Proofs.YtlhddgkbbdfacaaDoor.C_Block Go.Proofs.YtlhddgkbbdfacaaDoor.C_Sum Go.Proofs.YtlhddgkbbdfacaaDoor.C_Ref Go.Proofs.YtlhddgkbbdfacaaDoor.C_RSum Go.Proofs.YtlhddgkbbdfacaaDoor.C_Num Go.Proofs.YtlhddgkbbdfacaaDoor.C_Lay Go.Proofs.YtlhddgkbbdfacaaDoor.C_Leaf Go.Proofs.YtlhddgkbbdfacaaDoor.C_Item Go.Proofs.YtlhddgkbbdfacaaDoor.C_RefI Go.Proofs.YtlhddgkbbdfacaaDoor.C_Eq Go.Proofs.YtlhddgkbbdfacaaDoor.C_Hash Go.Proofs.YtlhddgkbbdfacaaDoor.C_Nx Go.Proofs.YtlhddgkbbdfacaaDoor.C_Sm

theorem z_zeroN26 : zeroL Tryd.prog 26 = some ((.int .i64 0 :: (.int .i64 0 :: ((List.replicate 32 (0 : UInt8)).map u8 ++ (.slice none 0 0 :: []))))) := by kernel_rfl
theorem z_places26 : placesB Tryd.prog 26 = some [(0, 1), (1, 1), (2, 32), (34, 1)] := by kernel_rfl
theorem z_call9 : callB Tryd.prog 9 = true := by kernel_rfl
theorem z_zeroN23 : zeroL Tryd.prog 23 = some ((List.replicate 32 (0 : UInt8)).map u8) := by kernel_rfl
theorem z_size23 : sizeB Tryd.prog 23 = some 32 := by kernel_rfl
theorem q_one_b32 {t0 : List UInt8} : (t0.map u8).all (·.oneCell') = true := (one_u8 _)
theorem q_len_b32 {t0 : List UInt8} (h0 : t0.length = 32) : (t0.map u8).length = 32 := (len_e (k := 32) h0)
theorem q_spl_b32_0_b32 {t0 : List UInt8} {s0 : List UInt8} (h0 : t0.length = 32) (g0 : s0.length = 32) : spl (t0.map u8) 0 (s0.map u8) = s0.map u8 := (spl_a (z := 32) (len_e (k := 32) h0) (len_e (k := 32) g0))
theorem z_size26 : sizeB Tryd.prog 26 = some 35 := by kernel_rfl
theorem z_zero26 : zeroL Tryd.prog 26 = some ([.int .i64 0, .int .i64 0, .int .u8 0, .int .u8 0, .int .u8 0, .int .u8 0, .int .u8 0, .int .u8 0, .int .u8 0, .int .u8 0, .int .u8 0, .int .u8 0, .int .u8 0, .int .u8 0, .int .u8 0, .int .u8 0, .int .u8 0, .int .u8 0, .int .u8 0, .int .u8 0, .int .u8 0, .int .u8 0, .int .u8 0, .int .u8 0, .int .u8 0, .int .u8 0, .int .u8 0, .int .u8 0, .int .u8 0, .int .u8 0, .int .u8 0, .int .u8 0, .int .u8 0, .int .u8 0, .slice none 0 0]) := by kernel_rfl
theorem z_agg23 : aggB Tryd.prog 23 = some true := by kernel_rfl
theorem q_ld_b32_0_32 {t0 : List UInt8} (h0 : t0.length = 32) : ((t0.map u8).drop 0).take 32 = t0.map u8 := (ld_a (len_e (k := 32) h0))
theorem z_zero23 : zeroL Tryd.prog 23 = some (List.replicate 32 (.int .u8 0)) := by kernel_rfl
theorem z_zeroN77 : zeroL Tryd.prog 77 = some ((.slice none 0 0 :: (.slice none 0 0 :: (.int .i64 0 :: (.int .i64 0 :: []))))) := by kernel_rfl
theorem z_places77 : placesB Tryd.prog 77 = some [(0, 1), (1, 1), (2, 1), (3, 1)] := by kernel_rfl
theorem q_len_c4 {a0 a1 a2 a3 : Value} : (a0 :: a1 :: a2 :: a3 :: []).length = 4 := (len_c (n := 3) (len_c (n := 2) (len_c (n := 1) (len_c (n := 0) len_n))))
theorem q_spl_c4_0_c1 {a0 a1 a2 a3 : Value} {b0 : Value} : spl (a0 :: a1 :: a2 :: a3 :: []) 0 (b0 :: []) = b0 :: a1 :: a2 :: a3 :: [] := spl_0
theorem q_spl_c4_1_c1 {a0 a1 a2 a3 : Value} {b0 : Value} : spl (a0 :: a1 :: a2 :: a3 :: []) 1 (b0 :: []) = a0 :: b0 :: a2 :: a3 :: [] := (spl_c (o := 0) spl_0)
theorem q_spl_c4_2_c1 {a0 a1 a2 a3 : Value} {b0 : Value} : spl (a0 :: a1 :: a2 :: a3 :: []) 2 (b0 :: []) = a0 :: a1 :: b0 :: a3 :: [] := (spl_c (o := 1) (spl_c (o := 0) spl_0))

set_option maxRecDepth 100000 in
set_option maxHeartbeats 2000000 in
theorem tnew (dp : Int) (h1 : 0 ≤ dp ∧ dp ≤ 4096) {w : World} (hG : Glob 0 Sha.K w) : Calls Tryd.prog 12 #[.int .i64 dp] w (Post [] w fun r l' => ∃ c v u, r = .tuple #[.pointer (some ⟨c, 0, none⟩), .int .i64 0] ∧ l' = [It.row 26 35 v [Inbox.BA.zero].length (Inbox.bc [Inbox.BA.zero]), It.row 23 32 u [Inbox.BA.zero].length (hc (Tree.hashes (Tree.bl [Inbox.BA.zero]))), It.blk c 77 [v, u, i64 dp, i64 0], (Tree.It.fz [Inbox.BA.zero])]) := by
  have hZl : Note.Z.length = 32 := Note.Z_len
  have lz32 : (List.replicate 32 (0 : UInt8)).length = 32 := List.length_replicate
  refine enterL (args := [.int .i64 dp]) Tryd.func12 rfl rfl (l := []) (Sep.refl _) ?_
  intro a0 H0
  refine wp_seq ?_
  refine reg ?_
  refine plain (y_assign rfl rfl) rfl rfl rfl H0 ?_
  clear H0; intro a1 H1
  refine plain (y_assign rfl rfl) rfl rfl rfl H1 ?_
  clear H1; intro a2 H2
  refine fin ?_
  refine then_n ?_
  refine wp_seq ?_
  refine wp_seq ?_
  refine reg ?_
  refine plain (y_move rfl rfl) rfl rfl rfl H2 ?_
  clear H2; intro a3 H3
  refine plain (y_lss rfl rfl rfl) rfl rfl rfl H3 ?_
  clear H3; intro a4 H4
  refine plain (y_move rfl rfl) rfl rfl rfl H4 ?_
  clear H4; intro a5 H5
  have H7 := H5.know (d := 8) (v := .bool false) rfl (congrArg Value.bool (decide_eq_false (by omega)))
  clear H5
  refine plain (y_move rfl rfl) rfl rfl rfl H7 ?_
  clear H7; intro a8 H8
  refine plain (y_gtr rfl rfl rfl) rfl rfl rfl H8 ?_
  clear H8; intro a9 H9
  refine plain (y_pick_f rfl rfl rfl) rfl rfl rfl H9 ?_
  clear H9; intro a10 H10
  refine fin ?_
  refine then_n ?_
  refine cnd H10 rfl (fun hc11 => ?_) (fun hc11 => ?_) -- cond 1
  · (try simp only [decide_eq_true_eq, decide_eq_false_iff_not, Bool.not_eq_true', Bool.not_eq_false', Bool.and_eq_true, Bool.not_eq_true, Bool.not_eq_false] at hc11); (exfalso; omega)
  · skip
    try simp only [decide_eq_true_eq, decide_eq_false_iff_not, Bool.not_eq_true', Bool.not_eq_false', Bool.and_eq_true, Bool.not_eq_true, Bool.not_eq_false] at hc11
    refine wp_skip ?_
    refine then_n ?_
    refine wp_seq ?_
    refine reg ?_
    refine plain (y_build rfl z_zeroN26 z_places26 rfl lay_n) rfl rfl rfl H10 ?_
    clear H10; intro a12 H12
    refine st_callg rfl z_call9 rfl rfl rfl rfl H12 (thash Inbox.BA.zero Tree.w0_zero (by decide) (Rd.nil _ _) (hG.frm H12.sep.frm (by simp))) ?_
    clear H12; intro a13 wx13 H13
    refine plain (y_move rfl rfl) rfl rfl rfl H13 ?_
    clear H13; intro a14 H14
    refine plain (y_extract rfl rfl rfl) rfl rfl rfl H14 ?_
    clear H14; intro a15 H15
    refine plain (y_extract rfl rfl rfl) rfl rfl rfl H15 ?_
    clear H15; intro a16 H16
    refine st_alloc rfl z_zeroN23 rfl rfl rfl H16 ?_
    clear H16; intro b17 a17 wx17 H17
    refine st_storeN rfl z_size23 rfl rfl (agg_cells _) (by repeat (first | exact Uh | apply Ut)) q_one_b32 (q_len_b32 (by first | assumption | exact Tree.hash_len _)) (q_len_b32 (by first | assumption | exact Tree.hash_len _)) (q_spl_b32_0_b32 (by first | assumption | exact Tree.hash_len _) (by first | assumption | exact Tree.hash_len _)) (by decide) rfl rfl H17 ?_
    clear H17; intro wx18 H18
    refine plain (y_assign rfl rfl) rfl rfl rfl H18 ?_
    clear H18; intro a19 H19
    refine fin ?_
    refine then_n ?_
    refine wp_seq ?_
    refine reg ?_
    refine plain (y_build rfl z_zeroN26 z_places26 rfl lay_n) rfl rfl rfl H19 ?_
    clear H19; intro a20 H20
    refine st_buildSlice rfl Tryd.underlying36 z_size26 z_zero26 rfl rfl rfl (lay_agg (agg_cells _) (Inbox.BA.cells_len (x := Inbox.BA.zero) rfl) rfl) rfl rfl rfl H20 ?_
    clear H20; intro b21 a21 wx21 H21
    refine plain (y_loadAB rfl z_agg23 z_size23 rfl (by repeat (first | exact Mh | apply Mt)) (q_ld_b32_0_32 (by first | assumption | exact Tree.hash_len _)) (q_len_b32 (by first | assumption | exact Tree.hash_len _))) rfl rfl rfl H21 ?_
    clear H21; intro a22 H22
    refine st_buildSlice rfl Tryd.underlying75 z_size23 z_zero23 rfl rfl rfl (lay_agg (agg_cells _) (by rw [List.length_map]; exact Tree.hash_len _) rfl) rfl rfl rfl H22 ?_
    clear H22; intro b23 a23 wx23 H23
    refine plain (y_move rfl rfl) rfl rfl rfl H23 ?_
    clear H23; intro a24 H24
    refine plain (y_build rfl z_zeroN77 z_places77 rfl (lay_1 (off := 0) (n := 4) rfl q_len_c4 (by decide) q_spl_c4_0_c1 (lay_1 (off := 1) (n := 4) rfl q_len_c4 (by decide) q_spl_c4_1_c1 (lay_1 (off := 2) (n := 4) rfl q_len_c4 (by decide) q_spl_c4_2_c1 lay_n (by rfl)) (by rfl)) (by rfl))) rfl rfl rfl H24 ?_
    clear H24; intro a25 H25
    refine st_box rfl rfl (agg_cells _) rfl rfl rfl H25 ?_
    clear H25; intro b26 a26 wx26 H26
    refine plain (y_assign rfl rfl) rfl rfl rfl H26 ?_
    clear H26; intro a27 H27
    refine plain (y_assign rfl rfl) rfl rfl rfl H27 ?_
    clear H27; intro a28 H28
    refine fin ?_
    refine then_n ?_
    refine wp_ret ?_
    -- return 1
    refine ret2 rfl H28 rfl rfl ?_
    replace H28 := H28.asRow (b := b21) (size := 35) (m := 1) (by repeat (first | exact Uh | apply Ut)) rfl (by unfold maxLen; omega)
    replace H28 := H28.asRow (b := b23) (size := 32) (m := 1) (by repeat (first | exact Uh | apply Ut)) (by rw [List.length_map]; exact Tree.hash_len _) (by unfold maxLen; omega)
    have hq := (Tree.St.addFz1 H28)
    have hq2 := (hq.only (is := [It.row 26 35 (.slice (some ⟨b21, 0, none⟩) 1 1) [Inbox.BA.zero].length (Inbox.bc [Inbox.BA.zero]), It.row 23 32 (.slice (some ⟨b23, 0, none⟩) 1 1) [Inbox.BA.zero].length (hc (Tree.hashes (Tree.bl [Inbox.BA.zero]))), It.blk b26 77 [(.slice (some ⟨b21, 0, none⟩) 1 1), (.slice (some ⟨b23, 0, none⟩) 1 1), i64 dp, i64 0], (Tree.It.fz [Inbox.BA.zero])]) (.cons (by repeat (first | exact Ph | apply Pt)) (.cons (by repeat (first | exact Ph | apply Pt)) (.cons (by repeat (first | exact Ph | apply Pt)) (.cons (by repeat (first | exact Ph | apply Pt)) (.nil _))))))
    exact ⟨_, _, rfl, ⟨_, _, _, rfl, rfl⟩, hq2.sep⟩

end Go.Proofs.YtlhddgkbbdfacaaDoor.C_New
