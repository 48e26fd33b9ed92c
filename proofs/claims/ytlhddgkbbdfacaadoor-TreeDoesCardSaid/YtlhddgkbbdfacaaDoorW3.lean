/- Part of a proof about given Go functions: contracts of functions, or plain laws. -/
import Derived.Test.YtlhddgkbbdfacaaDoorS9
import Derived.Test.YtlhddgkbbdfacaaDoorS7
import Derived.Test.YtlhddgkbbdfacaaDoorS8
import Derived.Test.YtlhddgkbbdfacaaDoorS3
import Derived.Test.YtlhddgkbbdfacaaDoorS4
import Derived.Test.YtlhddgkbbdfacaaDoorS1
import Derived.Test.YtlhddgkbbdfacaaDoorS2
import Derived.Test.YtlhddgkbbdfacaaDoorProg
import Derived.Test.YtlhddgkbbdfacaaDoorW1
import Derived.Test.YtlhddgkbbdfacaaDoorW2
set_option linter.unusedVariables false
set_option linter.unusedSimpArgs false
namespace Go.Proofs.YtlhddgkbbdfacaaDoor.C_Mine
open Go.Sx Go.RowKit Go.Proofs.YtlhddgkbbdfacaaDoor.C_Block Go.Proofs.YtlhddgkbbdfacaaDoor.C_Sum Go.Proofs.YtlhddgkbbdfacaaDoor.C_Ref Go.Proofs.YtlhddgkbbdfacaaDoor.C_RSum Go.Proofs.YtlhddgkbbdfacaaDoor.C_Num Go.Proofs.YtlhddgkbbdfacaaDoor.C_Lay Go.Proofs.YtlhddgkbbdfacaaDoor.C_Leaf Go.Proofs.YtlhddgkbbdfacaaDoor.C_Item Go.Proofs.YtlhddgkbbdfacaaDoor.C_RefI Go.Proofs.YtlhddgkbbdfacaaDoor.C_Eq Go.Proofs.YtlhddgkbbdfacaaDoor.C_Hash Go.Proofs.YtlhddgkbbdfacaaDoor.C_Nx Go.Proofs.YtlhddgkbbdfacaaDoor.C_Sm

theorem z_zeroN23 : zeroL Tryd.prog 23 = some ((List.replicate 32 (0 : UInt8)).map u8) := by kernel_rfl
theorem z_call21 : callB Tryd.prog 21 = true := by kernel_rfl
theorem z_size5 : sizeB Tryd.prog 5 = some 1 := by kernel_rfl
theorem z_size23 : sizeB Tryd.prog 23 = some 32 := by kernel_rfl
theorem q_one_b32 {t0 : List UInt8} : (t0.map u8).all (·.oneCell') = true := (one_u8 _)
theorem q_len_b32 {t0 : List UInt8} (h0 : t0.length = 32) : (t0.map u8).length = 32 := (len_e (k := 32) h0)
theorem q_spl_b32_0_b32 {t0 : List UInt8} {s0 : List UInt8} (h0 : t0.length = 32) (g0 : s0.length = 32) : spl (t0.map u8) 0 (s0.map u8) = s0.map u8 := (spl_a (z := 32) (len_e (k := 32) h0) (len_e (k := 32) g0))
theorem z_agg23 : aggB Tryd.prog 23 = some true := by kernel_rfl
theorem z_field77_1 : fieldB Tryd.prog 77 1 = some 1 := by kernel_rfl
theorem z_agg75 : aggB Tryd.prog 75 = some false := by kernel_rfl
theorem q_ix_c4_1 {a0 a1 a2 a3 : Value} : (a0 :: a1 :: a2 :: a3 :: [])[1]? = some a1 := (ix_c (o := 0) ix_0)
theorem z_call39 : callB Tryd.prog 39 = true := by kernel_rfl
theorem z_zeroN26 : zeroL Tryd.prog 26 = some ((.int .i64 0 :: (.int .i64 0 :: ((List.replicate 32 (0 : UInt8)).map u8 ++ (.slice none 0 0 :: []))))) := by kernel_rfl
theorem z_size26 : sizeB Tryd.prog 26 = some 35 := by kernel_rfl
theorem q_one_c2b32c1 {a0 a1 a3 : Value} {t2 : List UInt8} (o0 : a0.oneCell' = true) (o1 : a1.oneCell' = true) (o3 : a3.oneCell' = true) : (a0 :: a1 :: (t2.map u8 ++ (a3 :: []))).all (·.oneCell') = true := (one_c o0 (one_c o1 (one_b (one_c o3 one_n))))
theorem q_len_c2b32c1 {a0 a1 a3 : Value} {t2 : List UInt8} (h2 : t2.length = 32) : (a0 :: a1 :: (t2.map u8 ++ (a3 :: []))).length = 35 := (len_c (n := 34) (len_c (n := 33) (len_b (k := 32) (n := 1) h2 (len_c (n := 0) len_n))))
theorem q_spl_c2b32c1_0_c2b32c1 {a0 a1 a3 : Value} {t2 : List UInt8} {b0 b1 b3 : Value} {s2 : List UInt8} (h2 : t2.length = 32) (g2 : s2.length = 32) : spl (a0 :: a1 :: (t2.map u8 ++ (a3 :: []))) 0 (b0 :: b1 :: (s2.map u8 ++ (b3 :: []))) = b0 :: b1 :: (s2.map u8 ++ (b3 :: [])) := (spl_a (z := 35) (len_c (n := 34) (len_c (n := 33) (len_b (k := 32) (n := 1) h2 (len_c (n := 0) len_n)))) (len_c (n := 34) (len_c (n := 33) (len_b (k := 32) (n := 1) g2 (len_c (n := 0) len_n)))))
theorem z_field77_0 : fieldB Tryd.prog 77 0 = some 0 := by kernel_rfl
theorem z_agg26 : aggB Tryd.prog 26 = some true := by kernel_rfl
theorem q_ld_c2b32c1_0_35 {a0 a1 a3 : Value} {t2 : List UInt8} (h2 : t2.length = 32) : ((a0 :: a1 :: (t2.map u8 ++ (a3 :: []))).drop 0).take 35 = a0 :: a1 :: (t2.map u8 ++ (a3 :: [])) := (ld_a (len_c (n := 34) (len_c (n := 33) (len_b (k := 32) (n := 1) h2 (len_c (n := 0) len_n)))))
theorem q_ld_b32_0_32 {t0 : List UInt8} (h0 : t0.length = 32) : ((t0.map u8).drop 0).take 32 = t0.map u8 := (ld_a (len_e (k := 32) h0))
theorem z_agg36 : aggB Tryd.prog 36 = some false := by kernel_rfl
theorem q_ix_c4_0 {a0 a1 a2 a3 : Value} : (a0 :: a1 :: a2 :: a3 :: [])[0]? = some a0 := ix_0
theorem z_zero26 : zeroL Tryd.prog 26 = some ([.int .i64 0, .int .i64 0, .int .u8 0, .int .u8 0, .int .u8 0, .int .u8 0, .int .u8 0, .int .u8 0, .int .u8 0, .int .u8 0, .int .u8 0, .int .u8 0, .int .u8 0, .int .u8 0, .int .u8 0, .int .u8 0, .int .u8 0, .int .u8 0, .int .u8 0, .int .u8 0, .int .u8 0, .int .u8 0, .int .u8 0, .int .u8 0, .int .u8 0, .int .u8 0, .int .u8 0, .int .u8 0, .int .u8 0, .int .u8 0, .int .u8 0, .int .u8 0, .int .u8 0, .int .u8 0, .slice none 0 0]) := by kernel_rfl
theorem z_slice36 : sliceB Tryd.prog 36 = some (26, 35, 72) := by kernel_rfl
theorem z_notint36 : notIntB Tryd.prog 36 = true := by kernel_rfl
theorem z_zero23 : zeroL Tryd.prog 23 = some (List.replicate 32 (.int .u8 0)) := by kernel_rfl
theorem z_slice75 : sliceB Tryd.prog 75 = some (23, 32, 32) := by kernel_rfl
theorem z_notint75 : notIntB Tryd.prog 75 = true := by kernel_rfl
theorem z_size36 : sizeB Tryd.prog 36 = some 1 := by kernel_rfl
theorem q_len_c4 {a0 a1 a2 a3 : Value} : (a0 :: a1 :: a2 :: a3 :: []).length = 4 := (len_c (n := 3) (len_c (n := 2) (len_c (n := 1) (len_c (n := 0) len_n))))
theorem q_set_c4_0 {a0 a1 a2 a3 : Value} {v : Value} : (a0 :: a1 :: a2 :: a3 :: []).set 0 v = v :: a1 :: a2 :: a3 :: [] := set_0
theorem z_size75 : sizeB Tryd.prog 75 = some 1 := by kernel_rfl
theorem q_set_c4_1 {a0 a1 a2 a3 : Value} {v : Value} : (a0 :: a1 :: a2 :: a3 :: []).set 1 v = a0 :: v :: a2 :: a3 :: [] := (set_c (o := 0) set_0)

set_option maxRecDepth 100000 in
set_option maxHeartbeats 4000000 in
theorem tmine (X : List Inbox.BA) (hX : Tree.Wfs X) (h0 : 0 < X.length) (hlen : X.length ≤ 4097) (dp de : Int) (c : Nat) (v u : Value) (salt : Int) (hsa : Note.I64 salt) (A : Option Addr) (ci : Nat) (its : List Note.Item) (hit : ∀ i ∈ its, Note.Item.Wf i) (hib : its.length * 40 ≤ 140737488355328) {w : World} (hs : Sep (fps [It.row 26 35 v X.length (Inbox.bc X), It.row 23 32 u X.length (hc (Tree.hashes (Tree.bl X))), It.blk c 77 [v, u, i64 dp, i64 de], (Tree.It.fz X)]) w w [It.row 26 35 v X.length (Inbox.bc X), It.row 23 32 u X.length (hc (Tree.hashes (Tree.bl X))), It.blk c 77 [v, u, i64 dp, i64 de], (Tree.It.fz X)]) (hK : Tree.Keeps [It.row 26 35 v X.length (Inbox.bc X), It.row 23 32 u X.length (hc (Tree.hashes (Tree.bl X))), It.blk c 77 [v, u, i64 dp, i64 de], (Tree.It.fz X)] w A (Inbox.ic its)) (hG : Glob 0 Sha.K w) (hz : 0 ∉ fps [It.row 26 35 v X.length (Inbox.bc X), It.row 23 32 u X.length (hc (Tree.hashes (Tree.bl X))), It.blk c 77 [v, u, i64 dp, i64 de], (Tree.It.fz X)]) : Calls Tryd.prog 13 #[.pointer (some ⟨c, 0, none⟩), .slice A its.length ci, .int .i64 salt] w (Post (fps [It.row 26 35 v X.length (Inbox.bc X), It.row 23 32 u X.length (hc (Tree.hashes (Tree.bl X))), It.blk c 77 [v, u, i64 dp, i64 de], (Tree.It.fz X)]) w fun r l' => ∃ (X' : List Inbox.BA) (v' u' : Value), (Tree.bl X' = (Tree.mine (⟨Tree.bl X, dp, de⟩ : Tree.Chain) its salt).1.L ∧ Tree.Wfs X') ∧ r = .tuple #[.agg ((Tree.mine (⟨Tree.bl X, dp, de⟩ : Tree.Chain) its salt).2.1.map u8).toArray, .int .i64 (Tree.mine (⟨Tree.bl X, dp, de⟩ : Tree.Chain) its salt).2.2] ∧ l' = [It.row 26 35 v' X'.length (Inbox.bc X'), It.row 23 32 u' X'.length (hc (Tree.hashes (Tree.bl X'))), It.blk c 77 [v', u', i64 dp, i64 de], (Tree.It.fz X')]) := by
 obtain ⟨A1, c1, rfl, hR1, hm1⟩ := row_shape (v := v) hs MM
 obtain ⟨A2, c2, rfl, hR2, hm2⟩ := row_shape (v := u) hs MM
 have hZl : Note.Z.length = 32 := Note.Z_len
 have hbl := Tree.bl_len X
 have lz32 : (List.replicate 32 (0 : UInt8)).length = 32 := List.length_replicate
 refine enterL (args := [.pointer (some ⟨c, 0, none⟩), .slice A its.length ci, .int .i64 salt]) Tryd.func13 rfl rfl (l := [It.row 26 35 (.slice A1 X.length c1) X.length (Inbox.bc X), It.row 23 32 (.slice A2 X.length c2) X.length (hc (Tree.hashes (Tree.bl X))), It.blk c 77 [(.slice A1 X.length c1), (.slice A2 X.length c2), i64 dp, i64 de], (Tree.It.fz X)]) hs ?_
 intro a0 H0
 refine wp_seq ?_
 refine reg ?_
 refine st_alloc rfl z_zeroN23 rfl rfl rfl H0 ?_
 clear H0; intro b1 a1 wx1 H1
 refine plain (y_assign rfl rfl) rfl rfl rfl H1 ?_
 clear H1; intro a2 H2
 refine fin ?_
 refine then_n ?_
 refine wp_seq ?_
 refine wp_seq ?_
 refine reg ?_
 refine plain (y_move rfl rfl) rfl rfl rfl H2 ?_
 clear H2; intro a3 H3
 refine plain (y_peql rfl Tryd.underlying33 rfl rfl) rfl rfl rfl H3 ?_
 clear H3; intro a4 H4
 refine fin ?_
 refine then_n ?_
 refine cnd_f H4 rfl ?_
 refine wp_skip ?_
 refine then_n ?_
 refine wp_seq ?_
 refine reg ?_
 refine plain (y_move rfl rfl) rfl rfl rfl H4 ?_
 clear H4; intro a6 H6
 refine st_callg rfl z_call21 rfl rfl rfl rfl H6 (theight X hX h0 hlen dp de c (.slice A1 X.length c1) (.slice A2 X.length c2) (H6.sep.all _ MM) (H6.sep.all _ MM)) ?_
 clear H6; intro a7 wx7 H7
 refine plain (y_assign rfl rfl) rfl rfl rfl H7 ?_
 clear H7; intro a8 H8
 refine fin ?_
 refine then_n ?_
 refine wp_seq ?_
 refine wp_seq ?_
 refine reg ?_
 refine plain (y_move rfl rfl) rfl rfl rfl H8 ?_
 clear H8; intro a9 H9
 refine plain (y_geq rfl rfl rfl) rfl rfl rfl H9 ?_
 clear H9; intro a10 H10
 refine fin ?_
 refine then_n ?_
 refine cnd H10 rfl (fun hc11 => ?_) (fun hc11 => ?_) -- cond 2
 ·skip
  try simp only [decide_eq_true_eq, decide_eq_false_iff_not, Bool.not_eq_true', Bool.not_eq_false', Bool.and_eq_true, Bool.not_eq_true, Bool.not_eq_false] at hc11
  have hf1 : 4096 ≤ Tree.Chain.height (⟨Tree.bl X, dp, de⟩ : Tree.Chain) := by show 4096 ≤ ((Tree.bl X).length : Int) - 1; rw [hbl]; exact hc11
  refine wp_seq ?_
  refine reg ?_
  refine plain (y_buildA rfl z_zeroN23 Tryd.underlying23 z_size5 rfl lay_n) rfl rfl rfl H10 ?_
  clear H10; intro a12 H12
  refine st_storeN rfl z_size23 rfl rfl (agg_cells _) UU q_one_b32 (q_len_b32 (by first | assumption | exact Tree.hash_len _)) (q_len_b32 (by first | assumption | exact Tree.hash_len _)) (q_spl_b32_0_b32 (by first | assumption | exact Tree.hash_len _) (by first | assumption | exact Tree.hash_len _)) (by decide) rfl rfl H12 ?_
  clear H12; intro wx13 H13
  refine plain (y_assign rfl rfl) rfl rfl rfl H13 ?_
  clear H13; intro a14 H14
  refine fin ?_
  refine then_n ?_
  refine wp_ret ?_
  refine then_r ?_
  -- return 1
  refine retct rfl H14 rfl z_agg23 z_size23 MM (q_len_b32 (by first | assumption | exact Tree.hash_len _)) rfl ?_
  have hz0 := Tree.mine_full (its := its) (salt := salt) hf1; rw [hz0]; exact ⟨_, _, rfl, ⟨X, (.slice A1 X.length c1), (.slice A2 X.length c2), ⟨rfl, hX⟩, rfl, rfl⟩, (H14.only (is := [It.row 26 35 (.slice A1 X.length c1) X.length (Inbox.bc X), It.row 23 32 (.slice A2 X.length c2) X.length (hc (Tree.hashes (Tree.bl X))), It.blk c 77 [(.slice A1 X.length c1), (.slice A2 X.length c2), i64 dp, i64 de], (Tree.It.fz X)]) (.cons PP (.cons PP (.cons PP (.cons PP (.nil _)))))).sep⟩
 ·skip
  try simp only [decide_eq_true_eq, decide_eq_false_iff_not, Bool.not_eq_true', Bool.not_eq_false', Bool.and_eq_true, Bool.not_eq_true, Bool.not_eq_false] at hc11
  have hf2 : ¬ 4096 ≤ Tree.Chain.height (⟨Tree.bl X, dp, de⟩ : Tree.Chain) := by show ¬ 4096 ≤ ((Tree.bl X).length : Int) - 1; rw [hbl]; exact hc11
  refine wp_skip ?_
  refine then_n ?_
  refine wp_seq ?_
  refine reg ?_
  refine plain (y_move rfl rfl) rfl rfl rfl H10 ?_
  clear H10; intro a15 H15
  refine plain (y_add rfl rfl rfl (by first | exact w64 (by omega) (by omega) | rfl)) rfl rfl rfl H15 ?_
  clear H15; intro a16 H16
  refine plain (y_move rfl rfl) rfl rfl rfl H16 ?_
  clear H16; intro a17 H17
  refine plain (y_nilCheck rfl rfl) rfl rfl rfl H17 ?_
  clear H17; intro a18 H18
  refine plain (y_fieldB rfl z_field77_1 rfl (by first | (simp only [Nat.zero_add, Nat.add_zero, Nat.reduceAdd]; rfl) | rfl)) rfl rfl rfl H18 ?_
  clear H18; intro a19 H19
  refine plain (y_loadB rfl z_agg75 rfl MM q_ix_c4_1) rfl rfl rfl H19 ?_
  clear H19; intro a20 H20
  refine plain (y_move rfl rfl) rfl rfl rfl H20 ?_
  clear H20; intro a21 H21
  refine plain (y_ixR rfl Tryd.underlying75 z_size23 rfl rfl (by omega) (by omega) (rd_row MM) (by rw [Tree.hc_hs]; omega)) rfl rfl rfl H21 ?_
  clear H21; intro a22 H22
  refine plain (y_loadAS rfl z_agg23 z_size23 rfl (rd_row MM) (show _ = ((Tree.hashes (Tree.bl X)).getD ((X.length : Int) - 1).toNat []).map u8 from hc_take _ (Tree.hashes_h _) (by rw [Tree.hashes_len, hbl]; omega)) (by rw [List.length_map]; exact (Tree.hashes_h _).getD (by rw [Tree.hashes_len, hbl]; omega)) (by decide)) rfl rfl rfl H22 ?_
  clear H22; intro a23 H23
  refine plain (y_move rfl rfl) rfl rfl rfl H23 ?_
  clear H23; intro a24 H24
  refine plain (y_move rfl rfl) rfl rfl rfl H24 ?_
  clear H24; intro a25 H25
  replace H25 := H25.know (d := 22) rfl (congrArg (Value.int .i64) (show (X.length : Int) - 1 + 1 = ((Tree.bl X).length : Int) by rw [hbl]; omega))
  replace H25 := H25.know (d := 29) rfl (show _ = Value.agg ((Tree.hash (Tree.last (Tree.bl X))).1.map u8).toArray by rw [show ((X.length : Int) - 1).toNat = X.length - 1 by omega, Tree.last_at h0])
  refine st_call rfl z_call39 rfl rfl rfl rfl H25 (tnext ((Tree.bl X).length : Int) salt (by rw [hbl]; constructor <;> omega) hsa (Tree.hash (Tree.last (Tree.bl X))).1 (Tree.hash_len _) A ci its hit hib (hK.at_ H25.sep) (hG.frm H25.sep.frm hz)) ?_
  clear H25; intro v26 l26 a26 wx26 hf26 H26
  obtain ⟨A', c', rfl, rfl⟩ := hf26
  simp only [List.cons_append, List.nil_append] at H26
  refine plain (y_move rfl rfl) rfl rfl rfl H26 ?_
  clear H26; intro a27 H27
  refine plain (y_extract rfl rfl rfl) rfl rfl rfl H27 ?_
  clear H27; intro a28 H28
  refine plain (y_extract rfl rfl rfl) rfl rfl rfl H28 ?_
  clear H28; intro a29 H29
  refine plain (y_extract rfl rfl rfl) rfl rfl rfl H29 ?_
  clear H29; intro a30 H30
  refine st_alloc rfl z_zeroN26 rfl rfl rfl H30 ?_
  clear H30; intro b31 a31 wx31 H31
  refine st_alloc rfl z_zeroN23 rfl rfl rfl H31 ?_
  clear H31; intro b32 a32 wx32 H32
  refine st_storeN rfl z_size26 rfl rfl (agg_cells _) UU (q_one_c2b32c1 rfl rfl rfl) (q_len_c2b32c1 (by first | assumption | exact Tree.hash_len _)) (q_len_c2b32c1 (by first | assumption | exact Tree.hash_len _)) (q_spl_c2b32c1_0_c2b32c1 (by first | assumption | exact Tree.hash_len _) (by first | assumption | exact Tree.hash_len _)) (by decide) rfl rfl H32 ?_
  clear H32; intro wx33 H33
  refine st_storeN rfl z_size23 rfl rfl (agg_cells _) UU q_one_b32 (q_len_b32 (by first | assumption | exact Tree.hash_len _)) (q_len_b32 (by first | assumption | exact Tree.hash_len _)) (q_spl_b32_0_b32 (by first | assumption | exact Tree.hash_len _) (by first | assumption | exact Tree.hash_len _)) (by decide) rfl rfl H33 ?_
  clear H33; intro wx34 H34
  refine plain (y_assign rfl rfl) rfl rfl rfl H34 ?_
  clear H34; intro a35 H35
  refine fin ?_
  refine then_n ?_
  refine wp_seq ?_
  refine wp_seq ?_
  refine reg ?_
  refine plain (y_move rfl rfl) rfl rfl rfl H35 ?_
  clear H35; intro a36 H36
  refine plain (y_neq rfl rfl rfl) rfl rfl rfl H36 ?_
  clear H36; intro a37 H37
  refine fin ?_
  refine then_n ?_
  refine cnd H37 rfl (fun hc38 => ?_) (fun hc38 => ?_) -- cond 3
  ·skip
   try simp only [decide_eq_true_eq, decide_eq_false_iff_not, Bool.not_eq_true', Bool.not_eq_false', Bool.and_eq_true, Bool.not_eq_true, Bool.not_eq_false] at hc38
   have hw1 := hc38
   refine wp_seq ?_
   refine reg ?_
   refine plain (y_buildA rfl z_zeroN23 Tryd.underlying23 z_size5 rfl lay_n) rfl rfl rfl H37 ?_
   clear H37; intro a39 H39
   refine plain (y_move rfl rfl) rfl rfl rfl H39 ?_
   clear H39; intro a40 H40
   refine st_storeN rfl z_size23 rfl rfl (agg_cells _) UU q_one_b32 (q_len_b32 (by first | assumption | exact Tree.hash_len _)) (q_len_b32 (by first | assumption | exact Tree.hash_len _)) (q_spl_b32_0_b32 (by first | assumption | exact Tree.hash_len _) (by first | assumption | exact Tree.hash_len _)) (by decide) rfl rfl H40 ?_
   clear H40; intro wx41 H41
   refine plain (y_assign rfl rfl) rfl rfl rfl H41 ?_
   clear H41; intro a42 H42
   refine fin ?_
   refine then_n ?_
   refine wp_ret ?_
   refine then_r ?_
   -- return 2
   refine retct rfl H42 rfl z_agg23 z_size23 MM (q_len_b32 (by first | assumption | exact Tree.hash_len _)) rfl ?_
   have hz0 := Tree.mine_bad hf2 hw1; rw [hz0]; exact ⟨_, _, rfl, ⟨X, (.slice A1 X.length c1), (.slice A2 X.length c2), ⟨rfl, hX⟩, rfl, rfl⟩, (H42.only (is := [It.row 26 35 (.slice A1 X.length c1) X.length (Inbox.bc X), It.row 23 32 (.slice A2 X.length c2) X.length (hc (Tree.hashes (Tree.bl X))), It.blk c 77 [(.slice A1 X.length c1), (.slice A2 X.length c2), i64 dp, i64 de], (Tree.It.fz X)]) (.cons PP (.cons PP (.cons PP (.cons PP (.nil _)))))).sep⟩
  ·skip
   try simp only [decide_eq_true_eq, decide_eq_false_iff_not, Bool.not_eq_true', Bool.not_eq_false', Bool.and_eq_true, Bool.not_eq_true, Bool.not_eq_false] at hc38
   have hw2 := Decidable.not_not.1 hc38
   refine wp_skip ?_
   refine then_n ?_
   refine wp_seq ?_
   have hwB : Tree.W0 (⟨(Tree.behind (Tree.bl X) its salt), A', c'⟩ : Inbox.BA) := ⟨by show Note.I64 ((Tree.bl X).length : Int); rw [hbl]; constructor <;> omega, hsa, Tree.hash_len _, hit, hib⟩
   refine hreg [It.blk b32 23 ((Tree.hash (Tree.behind (Tree.bl X) its salt)).1.map u8), It.blk b31 26 (Inbox.BA.cells (⟨(Tree.behind (Tree.bl X) its salt), A', c'⟩ : Inbox.BA))] (fun _ h => h.subA) (by kernel_rfl) H37 ?_
   clear H37; intro wx43 H43
   refine htake 0 rfl (by kernel_rfl) (y_move rfl rfl) rfl rfl rfl (fun _ h => h.subA) H43 ?_
   clear H43; intro a44 H44
   refine htake 1 rfl (by kernel_rfl) (y_move rfl rfl) rfl rfl rfl (fun _ h => h.subA) H44 ?_
   clear H44; intro a45 H45
   refine htake 2 rfl (by kernel_rfl) (y_move rfl rfl) rfl rfl rfl (fun _ h => h.subA) H45 ?_
   clear H45; intro a46 H46
   refine htake 3 rfl (by kernel_rfl) (y_nilCheck rfl rfl) rfl rfl rfl (fun _ h => h.subA) H46 ?_
   clear H46; intro a47 H47
   refine htake 4 rfl (by kernel_rfl) (y_fieldB rfl z_field77_0 rfl (by first | (simp only [Nat.zero_add, Nat.add_zero, Nat.reduceAdd]; rfl) | rfl)) rfl rfl rfl (fun _ h => h.subA) H47 ?_
   clear H47; intro a48 H48
   refine htake 6 rfl (by kernel_rfl) (y_loadAB rfl z_agg26 z_size26 rfl MM (q_ld_c2b32c1_0_35 (by first | assumption | exact Tree.hash_len _)) (q_len_c2b32c1 (by first | assumption | exact Tree.hash_len _))) rfl rfl rfl (fun _ h => h.subA) H48 ?_
   clear H48; intro a49 H49
   refine htake 9 rfl (by kernel_rfl) (y_move rfl rfl) rfl rfl rfl (fun _ h => h.subA) H49 ?_
   clear H49; intro a50 H50
   refine htake 10 rfl (by kernel_rfl) (y_nilCheck rfl rfl) rfl rfl rfl (fun _ h => h.subA) H50 ?_
   clear H50; intro a51 H51
   refine htake 11 rfl (by kernel_rfl) (y_fieldB rfl z_field77_1 rfl (by first | (simp only [Nat.zero_add, Nat.add_zero, Nat.reduceAdd]; rfl) | rfl)) rfl rfl rfl (fun _ h => h.subA) H51 ?_
   clear H51; intro a52 H52
   refine htake 13 rfl (by kernel_rfl) (y_loadAB rfl z_agg23 z_size23 rfl MM (q_ld_b32_0_32 (by first | assumption | exact Tree.hash_len _)) (q_len_b32 (by first | assumption | exact Tree.hash_len _))) rfl rfl rfl (fun _ h => h.subA) H52 ?_
   clear H52; intro a53 H53
   refine hgo4 5 7 12 14 rfl rfl rfl rfl (by kernel_rfl) ?_ ?_ ?_ ?_
   ·skip
    refine plain (y_loadB rfl z_agg36 rfl MM q_ix_c4_0) rfl rfl rfl H53 ?_
    clear H53; intro a54 H54
    refine hfinA H54.sep ?_
    refine hgo3 7 12 14 rfl rfl rfl (by kernel_rfl) ?_ ?_ ?_
    ·skip
     refine st_buildSlice rfl Tryd.underlying36 z_size26 z_zero26 rfl rfl rfl (lay_agg (agg_cells _) (Inbox.BA.cells_len (x := (⟨(Tree.behind (Tree.bl X) its salt), A', c'⟩ : Inbox.BA)) (Tree.hash_len _)) rfl) rfl rfl rfl H54 ?_
     clear H54; intro b55 a55 wx55 H55
     refine hfinA H55.sep ?_
     refine hgo3 8 12 14 rfl rfl rfl (by kernel_rfl) ?_ ?_ ?_
     ·skip
      refine st_append rfl z_slice36 z_notint36 rfl rfl (fun _ => UU) (fun w hs => Src.slice ((rd_blkA MM) w hs) (Inbox.BA.cells_len (x := (⟨(Tree.behind (Tree.bl X) its salt), A', c'⟩ : Inbox.BA)) (Tree.hash_len _)) (Tree.ba_cell (⟨(Tree.behind (Tree.bl X) its salt), A', c'⟩ : Inbox.BA))) (by unfold maxLen at *; omega) (by omega) rfl rfl rfl H55 ?_
      clear H55; intro v56 a56 wx56 hnil56 H56
      obtain ⟨ArV, crV, hvrV, hRrV, hmrV⟩ := row_shape (v := v56) H56.sep MM
      subst hvrV
      refine hfinA H56.sep ?_
      refine hgo2 12 14 rfl rfl (by kernel_rfl) ?_ ?_
      ·skip
       refine plain (y_loadB rfl z_agg75 rfl MM q_ix_c4_1) rfl rfl rfl H56 ?_
       clear H56; intro a57 H57
       refine hfinA H57.sep ?_
       refine hgo 14 rfl (by kernel_rfl) ?_
       refine st_buildSlice rfl Tryd.underlying75 z_size23 z_zero23 rfl rfl rfl (lay_agg (agg_cells _) (by rw [List.length_map]; exact Tree.hash_len _) rfl) rfl rfl rfl H57 ?_
       clear H57; intro b58 a58 wx58 H58
       refine hfinA H58.sep ?_
       refine hgo 15 rfl (by kernel_rfl) ?_
       refine st_append rfl z_slice75 z_notint75 rfl rfl (fun _ => UU) (fun w hs => Src.slice ((rd_blkA MM) w hs) (by rw [List.length_map]; exact Tree.hash_len _) (by intro q hq; obtain ⟨y, _, rfl⟩ := List.mem_map.1 hq; rfl)) (by unfold maxLen at *; omega) (by omega) rfl rfl rfl H58 ?_
       clear H58; intro v59 a59 wx59 hnil59 H59
       obtain ⟨ArU, crU, hvrU, hRrU, hmrU⟩ := row_shape (v := v59) H59.sep MM
       subst hvrU
       refine hfinA H59.sep ?_
       refine htake 16 rfl (by kernel_rfl) (y_nilCheck rfl rfl) rfl rfl rfl (fun _ h => h.subA) H59 ?_
       clear H59; intro a60 H60
       refine htake 17 rfl (by kernel_rfl) (y_fieldB rfl z_field77_0 rfl (by first | (simp only [Nat.zero_add, Nat.add_zero, Nat.reduceAdd]; rfl) | rfl)) rfl rfl rfl (fun _ h => h.subA) H60 ?_
       clear H60; intro a61 H61
       refine hgo 18 rfl (by kernel_rfl) ?_
       refine st_store1N rfl z_size36 rfl rfl rfl UU q_len_c4 q_set_c4_0 (by decide) rfl rfl H61 ?_
       clear H61; intro wx62 H62
       refine hfinA H62.sep ?_
       refine htake 19 rfl (by kernel_rfl) (y_nilCheck rfl rfl) rfl rfl rfl (fun _ h => h.subA) H62 ?_
       clear H62; intro a63 H63
       refine htake 20 rfl (by kernel_rfl) (y_fieldB rfl z_field77_1 rfl (by first | (simp only [Nat.zero_add, Nat.add_zero, Nat.reduceAdd]; rfl) | rfl)) rfl rfl rfl (fun _ h => h.subA) H63 ?_
       clear H63; intro a64 H64
       refine hgo 21 rfl (by kernel_rfl) ?_
       refine st_store1N rfl z_size75 rfl rfl rfl UU q_len_c4 q_set_c4_1 (by decide) rfl rfl H64 ?_
       clear H64; intro wx65 H65
       refine hfinA H65.sep ?_
       refine hdone (by kernel_rfl) ?_
       refine then_n ?_
       refine wp_seq ?_
       refine reg ?_
       refine plain (y_loadAB rfl z_agg23 z_size23 rfl MM (q_ld_b32_0_32 (by first | assumption | exact Tree.hash_len _)) (q_len_b32 (by first | assumption | exact Tree.hash_len _))) rfl rfl rfl H65 ?_
       clear H65; intro a66 H66
       refine st_storeN rfl z_size23 rfl rfl (agg_cells _) UU q_one_b32 (q_len_b32 (by first | assumption | exact Tree.hash_len _)) (q_len_b32 (by first | assumption | exact Tree.hash_len _)) (q_spl_b32_0_b32 (by first | assumption | exact Tree.hash_len _) (by first | assumption | exact Tree.hash_len _)) (by decide) rfl rfl H66 ?_
       clear H66; intro wx67 H67
       refine plain (y_assign rfl rfl) rfl rfl rfl H67 ?_
       clear H67; intro a68 H68
       refine fin ?_
       refine then_n ?_
       refine wp_ret ?_
       -- return 3
       refine retct rfl H68 rfl z_agg23 z_size23 MM (q_len_b32 (by first | assumption | exact Tree.hash_len _)) rfl ?_
       have hz0 := Tree.mine_good hf2 hw2; rw [hz0]; refine ⟨_, _, rfl, ⟨(X ++ [(⟨(Tree.behind (Tree.bl X) its salt), A', c'⟩ : Inbox.BA)]), (.slice ArV (X.length + 1) crV), (.slice ArU (X.length + 1) crU), ⟨Tree.bl_app _ _, hX.app (Tree.Wfs.one hwB)⟩, rfl, rfl⟩, ?_⟩; rw [Tree.bc_append, Tree.bc_one, Tree.hs_one, hc_append, hc_one, List.length_append]; have hfz0 := (H68.front (is := [It.row 69 4 (.slice A' its.length c') its.length (Inbox.ic its), (Tree.It.fz X)]) (.cons PP (.cons PP (.nil _)))); simp only [List.cons_append, List.nil_append] at hfz0; have hfz := Tree.St.freeze (x := (⟨(Tree.behind (Tree.bl X) its salt), A', c'⟩ : Inbox.BA)) hfz0; exact (hfz.only (is := [It.row 26 35 (.slice ArV (X.length + 1) crV) (X.length + 1) (Inbox.bc X ++ Inbox.BA.cells (⟨(Tree.behind (Tree.bl X) its salt), A', c'⟩ : Inbox.BA)), It.row 23 32 (.slice ArU (X.length + 1) crU) (X.length + 1) (hc (Tree.hashes (Tree.bl X)) ++ (Tree.hash (Tree.behind (Tree.bl X) its salt)).1.map u8), It.blk c 77 [(.slice ArV (X.length + 1) crV), (.slice ArU (X.length + 1) crU), i64 dp, i64 de], (Tree.It.fz (X ++ [(⟨(Tree.behind (Tree.bl X) its salt), A', c'⟩ : Inbox.BA)]))]) (.cons PP (.cons PP (.cons PP (.cons PP (.nil _)))))).sep
      ·skip
       refine st_buildSlice rfl Tryd.underlying75 z_size23 z_zero23 rfl rfl rfl (lay_agg (agg_cells _) (by rw [List.length_map]; exact Tree.hash_len _) rfl) rfl rfl rfl H56 ?_
       clear H56; intro b69 a69 wx69 H69
       refine hfinA H69.sep ?_
       refine hgo 12 rfl (by kernel_rfl) ?_
       refine plain (y_loadB rfl z_agg75 rfl MM q_ix_c4_1) rfl rfl rfl H69 ?_
       clear H69; intro a70 H70
       refine hfinA H70.sep ?_
       refine hgo 15 rfl (by kernel_rfl) ?_
       refine st_append rfl z_slice75 z_notint75 rfl rfl (fun _ => UU) (fun w hs => Src.slice ((rd_blkA MM) w hs) (by rw [List.length_map]; exact Tree.hash_len _) (by intro q hq; obtain ⟨y, _, rfl⟩ := List.mem_map.1 hq; rfl)) (by unfold maxLen at *; omega) (by omega) rfl rfl rfl H70 ?_
       clear H70; intro v71 a71 wx71 hnil71 H71
       obtain ⟨ArU, crU, hvrU, hRrU, hmrU⟩ := row_shape (v := v71) H71.sep MM
       subst hvrU
       refine hfinA H71.sep ?_
       refine htake 16 rfl (by kernel_rfl) (y_nilCheck rfl rfl) rfl rfl rfl (fun _ h => h.subA) H71 ?_
       clear H71; intro a72 H72
       refine htake 17 rfl (by kernel_rfl) (y_fieldB rfl z_field77_0 rfl (by first | (simp only [Nat.zero_add, Nat.add_zero, Nat.reduceAdd]; rfl) | rfl)) rfl rfl rfl (fun _ h => h.subA) H72 ?_
       clear H72; intro a73 H73
       refine hgo 18 rfl (by kernel_rfl) ?_
       refine st_store1N rfl z_size36 rfl rfl rfl UU q_len_c4 q_set_c4_0 (by decide) rfl rfl H73 ?_
       clear H73; intro wx74 H74
       refine hfinA H74.sep ?_
       refine htake 19 rfl (by kernel_rfl) (y_nilCheck rfl rfl) rfl rfl rfl (fun _ h => h.subA) H74 ?_
       clear H74; intro a75 H75
       refine htake 20 rfl (by kernel_rfl) (y_fieldB rfl z_field77_1 rfl (by first | (simp only [Nat.zero_add, Nat.add_zero, Nat.reduceAdd]; rfl) | rfl)) rfl rfl rfl (fun _ h => h.subA) H75 ?_
       clear H75; intro a76 H76
       refine hgo 21 rfl (by kernel_rfl) ?_
       refine st_store1N rfl z_size75 rfl rfl rfl UU q_len_c4 q_set_c4_1 (by decide) rfl rfl H76 ?_
       clear H76; intro wx77 H77
       refine hfinA H77.sep ?_
       refine hdone (by kernel_rfl) ?_
       refine then_n ?_
       refine wp_seq ?_
       refine reg ?_
       refine plain (y_loadAB rfl z_agg23 z_size23 rfl MM (q_ld_b32_0_32 (by first | assumption | exact Tree.hash_len _)) (q_len_b32 (by first | assumption | exact Tree.hash_len _))) rfl rfl rfl H77 ?_
       clear H77; intro a78 H78
       refine st_storeN rfl z_size23 rfl rfl (agg_cells _) UU q_one_b32 (q_len_b32 (by first | assumption | exact Tree.hash_len _)) (q_len_b32 (by first | assumption | exact Tree.hash_len _)) (q_spl_b32_0_b32 (by first | assumption | exact Tree.hash_len _) (by first | assumption | exact Tree.hash_len _)) (by decide) rfl rfl H78 ?_
       clear H78; intro wx79 H79
       refine plain (y_assign rfl rfl) rfl rfl rfl H79 ?_
       clear H79; intro a80 H80
       refine fin ?_
       refine then_n ?_
       refine wp_ret ?_
       -- return 4
       refine retct rfl H80 rfl z_agg23 z_size23 MM (q_len_b32 (by first | assumption | exact Tree.hash_len _)) rfl ?_
       have hz0 := Tree.mine_good hf2 hw2; rw [hz0]; refine ⟨_, _, rfl, ⟨(X ++ [(⟨(Tree.behind (Tree.bl X) its salt), A', c'⟩ : Inbox.BA)]), (.slice ArV (X.length + 1) crV), (.slice ArU (X.length + 1) crU), ⟨Tree.bl_app _ _, hX.app (Tree.Wfs.one hwB)⟩, rfl, rfl⟩, ?_⟩; rw [Tree.bc_append, Tree.bc_one, Tree.hs_one, hc_append, hc_one, List.length_append]; have hfz0 := (H80.front (is := [It.row 69 4 (.slice A' its.length c') its.length (Inbox.ic its), (Tree.It.fz X)]) (.cons PP (.cons PP (.nil _)))); simp only [List.cons_append, List.nil_append] at hfz0; have hfz := Tree.St.freeze (x := (⟨(Tree.behind (Tree.bl X) its salt), A', c'⟩ : Inbox.BA)) hfz0; exact (hfz.only (is := [It.row 26 35 (.slice ArV (X.length + 1) crV) (X.length + 1) (Inbox.bc X ++ Inbox.BA.cells (⟨(Tree.behind (Tree.bl X) its salt), A', c'⟩ : Inbox.BA)), It.row 23 32 (.slice ArU (X.length + 1) crU) (X.length + 1) (hc (Tree.hashes (Tree.bl X)) ++ (Tree.hash (Tree.behind (Tree.bl X) its salt)).1.map u8), It.blk c 77 [(.slice ArV (X.length + 1) crV), (.slice ArU (X.length + 1) crU), i64 dp, i64 de], (Tree.It.fz (X ++ [(⟨(Tree.behind (Tree.bl X) its salt), A', c'⟩ : Inbox.BA)]))]) (.cons PP (.cons PP (.cons PP (.cons PP (.nil _)))))).sep
     ·skip
      refine plain (y_loadB rfl z_agg75 rfl MM q_ix_c4_1) rfl rfl rfl H55 ?_
      clear H55; intro a81 H81
      refine hfinA H81.sep ?_
      refine hgo2 8 14 rfl rfl (by kernel_rfl) ?_ ?_
      ·skip
       refine st_append rfl z_slice36 z_notint36 rfl rfl (fun _ => UU) (fun w hs => Src.slice ((rd_blkA MM) w hs) (Inbox.BA.cells_len (x := (⟨(Tree.behind (Tree.bl X) its salt), A', c'⟩ : Inbox.BA)) (Tree.hash_len _)) (Tree.ba_cell (⟨(Tree.behind (Tree.bl X) its salt), A', c'⟩ : Inbox.BA))) (by unfold maxLen at *; omega) (by omega) rfl rfl rfl H81 ?_
       clear H81; intro v82 a82 wx82 hnil82 H82
       obtain ⟨ArV, crV, hvrV, hRrV, hmrV⟩ := row_shape (v := v82) H82.sep MM
       subst hvrV
       refine hfinA H82.sep ?_
       refine hgo 14 rfl (by kernel_rfl) ?_
       refine st_buildSlice rfl Tryd.underlying75 z_size23 z_zero23 rfl rfl rfl (lay_agg (agg_cells _) (by rw [List.length_map]; exact Tree.hash_len _) rfl) rfl rfl rfl H82 ?_
       clear H82; intro b83 a83 wx83 H83
       refine hfinA H83.sep ?_
       refine hgo 15 rfl (by kernel_rfl) ?_
       refine st_append rfl z_slice75 z_notint75 rfl rfl (fun _ => UU) (fun w hs => Src.slice ((rd_blkA MM) w hs) (by rw [List.length_map]; exact Tree.hash_len _) (by intro q hq; obtain ⟨y, _, rfl⟩ := List.mem_map.1 hq; rfl)) (by unfold maxLen at *; omega) (by omega) rfl rfl rfl H83 ?_
       clear H83; intro v84 a84 wx84 hnil84 H84
       obtain ⟨ArU, crU, hvrU, hRrU, hmrU⟩ := row_shape (v := v84) H84.sep MM
       subst hvrU
       refine hfinA H84.sep ?_
       refine htake 16 rfl (by kernel_rfl) (y_nilCheck rfl rfl) rfl rfl rfl (fun _ h => h.subA) H84 ?_
       clear H84; intro a85 H85
       refine htake 17 rfl (by kernel_rfl) (y_fieldB rfl z_field77_0 rfl (by first | (simp only [Nat.zero_add, Nat.add_zero, Nat.reduceAdd]; rfl) | rfl)) rfl rfl rfl (fun _ h => h.subA) H85 ?_
       clear H85; intro a86 H86
       refine hgo 18 rfl (by kernel_rfl) ?_
       refine st_store1N rfl z_size36 rfl rfl rfl UU q_len_c4 q_set_c4_0 (by decide) rfl rfl H86 ?_
       clear H86; intro wx87 H87
       refine hfinA H87.sep ?_
       refine htake 19 rfl (by kernel_rfl) (y_nilCheck rfl rfl) rfl rfl rfl (fun _ h => h.subA) H87 ?_
       clear H87; intro a88 H88
       refine htake 20 rfl (by kernel_rfl) (y_fieldB rfl z_field77_1 rfl (by first | (simp only [Nat.zero_add, Nat.add_zero, Nat.reduceAdd]; rfl) | rfl)) rfl rfl rfl (fun _ h => h.subA) H88 ?_
       clear H88; intro a89 H89
       refine hgo 21 rfl (by kernel_rfl) ?_
       refine st_store1N rfl z_size75 rfl rfl rfl UU q_len_c4 q_set_c4_1 (by decide) rfl rfl H89 ?_
       clear H89; intro wx90 H90
       refine hfinA H90.sep ?_
       refine hdone (by kernel_rfl) ?_
       refine then_n ?_
       refine wp_seq ?_
       refine reg ?_
       refine plain (y_loadAB rfl z_agg23 z_size23 rfl MM (q_ld_b32_0_32 (by first | assumption | exact Tree.hash_len _)) (q_len_b32 (by first | assumption | exact Tree.hash_len _))) rfl rfl rfl H90 ?_
       clear H90; intro a91 H91
       refine st_storeN rfl z_size23 rfl rfl (agg_cells _) UU q_one_b32 (q_len_b32 (by first | assumption | exact Tree.hash_len _)) (q_len_b32 (by first | assumption | exact Tree.hash_len _)) (q_spl_b32_0_b32 (by first | assumption | exact Tree.hash_len _) (by first | assumption | exact Tree.hash_len _)) (by decide) rfl rfl H91 ?_
       clear H91; intro wx92 H92
       refine plain (y_assign rfl rfl) rfl rfl rfl H92 ?_
       clear H92; intro a93 H93
       refine fin ?_
       refine then_n ?_
       refine wp_ret ?_
       -- return 5
       refine retct rfl H93 rfl z_agg23 z_size23 MM (q_len_b32 (by first | assumption | exact Tree.hash_len _)) rfl ?_
       have hz0 := Tree.mine_good hf2 hw2; rw [hz0]; refine ⟨_, _, rfl, ⟨(X ++ [(⟨(Tree.behind (Tree.bl X) its salt), A', c'⟩ : Inbox.BA)]), (.slice ArV (X.length + 1) crV), (.slice ArU (X.length + 1) crU), ⟨Tree.bl_app _ _, hX.app (Tree.Wfs.one hwB)⟩, rfl, rfl⟩, ?_⟩; rw [Tree.bc_append, Tree.bc_one, Tree.hs_one, hc_append, hc_one, List.length_append]; have hfz0 := (H93.front (is := [It.row 69 4 (.slice A' its.length c') its.length (Inbox.ic its), (Tree.It.fz X)]) (.cons PP (.cons PP (.nil _)))); simp only [List.cons_append, List.nil_append] at hfz0; have hfz := Tree.St.freeze (x := (⟨(Tree.behind (Tree.bl X) its salt), A', c'⟩ : Inbox.BA)) hfz0; exact (hfz.only (is := [It.row 26 35 (.slice ArV (X.length + 1) crV) (X.length + 1) (Inbox.bc X ++ Inbox.BA.cells (⟨(Tree.behind (Tree.bl X) its salt), A', c'⟩ : Inbox.BA)), It.row 23 32 (.slice ArU (X.length + 1) crU) (X.length + 1) (hc (Tree.hashes (Tree.bl X)) ++ (Tree.hash (Tree.behind (Tree.bl X) its salt)).1.map u8), It.blk c 77 [(.slice ArV (X.length + 1) crV), (.slice ArU (X.length + 1) crU), i64 dp, i64 de], (Tree.It.fz (X ++ [(⟨(Tree.behind (Tree.bl X) its salt), A', c'⟩ : Inbox.BA)]))]) (.cons PP (.cons PP (.cons PP (.cons PP (.nil _)))))).sep
      ·skip
       refine st_buildSlice rfl Tryd.underlying75 z_size23 z_zero23 rfl rfl rfl (lay_agg (agg_cells _) (by rw [List.length_map]; exact Tree.hash_len _) rfl) rfl rfl rfl H81 ?_
       clear H81; intro b94 a94 wx94 H94
       refine hfinA H94.sep ?_
       refine hgo 8 rfl (by kernel_rfl) ?_
       refine st_append rfl z_slice36 z_notint36 rfl rfl (fun _ => UU) (fun w hs => Src.slice ((rd_blkA MM) w hs) (Inbox.BA.cells_len (x := (⟨(Tree.behind (Tree.bl X) its salt), A', c'⟩ : Inbox.BA)) (Tree.hash_len _)) (Tree.ba_cell (⟨(Tree.behind (Tree.bl X) its salt), A', c'⟩ : Inbox.BA))) (by unfold maxLen at *; omega) (by omega) rfl rfl rfl H94 ?_
       clear H94; intro v95 a95 wx95 hnil95 H95
       obtain ⟨ArV, crV, hvrV, hRrV, hmrV⟩ := row_shape (v := v95) H95.sep MM
       subst hvrV
       refine hfinA H95.sep ?_
       refine hgo 15 rfl (by kernel_rfl) ?_
       refine st_append rfl z_slice75 z_notint75 rfl rfl (fun _ => UU) (fun w hs => Src.slice ((rd_blkA MM) w hs) (by rw [List.length_map]; exact Tree.hash_len _) (by intro q hq; obtain ⟨y, _, rfl⟩ := List.mem_map.1 hq; rfl)) (by unfold maxLen at *; omega) (by omega) rfl rfl rfl H95 ?_
       clear H95; intro v96 a96 wx96 hnil96 H96
       obtain ⟨ArU, crU, hvrU, hRrU, hmrU⟩ := row_shape (v := v96) H96.sep MM
       subst hvrU
       refine hfinA H96.sep ?_
       refine htake 16 rfl (by kernel_rfl) (y_nilCheck rfl rfl) rfl rfl rfl (fun _ h => h.subA) H96 ?_
       clear H96; intro a97 H97
       refine htake 17 rfl (by kernel_rfl) (y_fieldB rfl z_field77_0 rfl (by first | (simp only [Nat.zero_add, Nat.add_zero, Nat.reduceAdd]; rfl) | rfl)) rfl rfl rfl (fun _ h => h.subA) H97 ?_
       clear H97; intro a98 H98
       refine hgo 18 rfl (by kernel_rfl) ?_
       refine st_store1N rfl z_size36 rfl rfl rfl UU q_len_c4 q_set_c4_0 (by decide) rfl rfl H98 ?_
       clear H98; intro wx99 H99
       refine hfinA H99.sep ?_
       refine htake 19 rfl (by kernel_rfl) (y_nilCheck rfl rfl) rfl rfl rfl (fun _ h => h.subA) H99 ?_
       clear H99; intro a100 H100
       refine htake 20 rfl (by kernel_rfl) (y_fieldB rfl z_field77_1 rfl (by first | (simp only [Nat.zero_add, Nat.add_zero, Nat.reduceAdd]; rfl) | rfl)) rfl rfl rfl (fun _ h => h.subA) H100 ?_
       clear H100; intro a101 H101
       refine hgo 21 rfl (by kernel_rfl) ?_
       refine st_store1N rfl z_size75 rfl rfl rfl UU q_len_c4 q_set_c4_1 (by decide) rfl rfl H101 ?_
       clear H101; intro wx102 H102
       refine hfinA H102.sep ?_
       refine hdone (by kernel_rfl) ?_
       refine then_n ?_
       refine wp_seq ?_
       refine reg ?_
       refine plain (y_loadAB rfl z_agg23 z_size23 rfl MM (q_ld_b32_0_32 (by first | assumption | exact Tree.hash_len _)) (q_len_b32 (by first | assumption | exact Tree.hash_len _))) rfl rfl rfl H102 ?_
       clear H102; intro a103 H103
       refine st_storeN rfl z_size23 rfl rfl (agg_cells _) UU q_one_b32 (q_len_b32 (by first | assumption | exact Tree.hash_len _)) (q_len_b32 (by first | assumption | exact Tree.hash_len _)) (q_spl_b32_0_b32 (by first | assumption | exact Tree.hash_len _) (by first | assumption | exact Tree.hash_len _)) (by decide) rfl rfl H103 ?_
       clear H103; intro wx104 H104
       refine plain (y_assign rfl rfl) rfl rfl rfl H104 ?_
       clear H104; intro a105 H105
       refine fin ?_
       refine then_n ?_
       refine wp_ret ?_
       -- return 6
       refine retct rfl H105 rfl z_agg23 z_size23 MM (q_len_b32 (by first | assumption | exact Tree.hash_len _)) rfl ?_
       have hz0 := Tree.mine_good hf2 hw2; rw [hz0]; refine ⟨_, _, rfl, ⟨(X ++ [(⟨(Tree.behind (Tree.bl X) its salt), A', c'⟩ : Inbox.BA)]), (.slice ArV (X.length + 1) crV), (.slice ArU (X.length + 1) crU), ⟨Tree.bl_app _ _, hX.app (Tree.Wfs.one hwB)⟩, rfl, rfl⟩, ?_⟩; rw [Tree.bc_append, Tree.bc_one, Tree.hs_one, hc_append, hc_one, List.length_append]; have hfz0 := (H105.front (is := [It.row 69 4 (.slice A' its.length c') its.length (Inbox.ic its), (Tree.It.fz X)]) (.cons PP (.cons PP (.nil _)))); simp only [List.cons_append, List.nil_append] at hfz0; have hfz := Tree.St.freeze (x := (⟨(Tree.behind (Tree.bl X) its salt), A', c'⟩ : Inbox.BA)) hfz0; exact (hfz.only (is := [It.row 26 35 (.slice ArV (X.length + 1) crV) (X.length + 1) (Inbox.bc X ++ Inbox.BA.cells (⟨(Tree.behind (Tree.bl X) its salt), A', c'⟩ : Inbox.BA)), It.row 23 32 (.slice ArU (X.length + 1) crU) (X.length + 1) (hc (Tree.hashes (Tree.bl X)) ++ (Tree.hash (Tree.behind (Tree.bl X) its salt)).1.map u8), It.blk c 77 [(.slice ArV (X.length + 1) crV), (.slice ArU (X.length + 1) crU), i64 dp, i64 de], (Tree.It.fz (X ++ [(⟨(Tree.behind (Tree.bl X) its salt), A', c'⟩ : Inbox.BA)]))]) (.cons PP (.cons PP (.cons PP (.cons PP (.nil _)))))).sep
     ·skip
      refine st_buildSlice rfl Tryd.underlying75 z_size23 z_zero23 rfl rfl rfl (lay_agg (agg_cells _) (by rw [List.length_map]; exact Tree.hash_len _) rfl) rfl rfl rfl H55 ?_
      clear H55; intro b106 a106 wx106 H106
      refine hfinA H106.sep ?_
      refine hgo2 8 12 rfl rfl (by kernel_rfl) ?_ ?_
      ·skip
       refine st_append rfl z_slice36 z_notint36 rfl rfl (fun _ => UU) (fun w hs => Src.slice ((rd_blkA MM) w hs) (Inbox.BA.cells_len (x := (⟨(Tree.behind (Tree.bl X) its salt), A', c'⟩ : Inbox.BA)) (Tree.hash_len _)) (Tree.ba_cell (⟨(Tree.behind (Tree.bl X) its salt), A', c'⟩ : Inbox.BA))) (by unfold maxLen at *; omega) (by omega) rfl rfl rfl H106 ?_
       clear H106; intro v107 a107 wx107 hnil107 H107
       obtain ⟨ArV, crV, hvrV, hRrV, hmrV⟩ := row_shape (v := v107) H107.sep MM
       subst hvrV
       refine hfinA H107.sep ?_
       refine hgo 12 rfl (by kernel_rfl) ?_
       refine plain (y_loadB rfl z_agg75 rfl MM q_ix_c4_1) rfl rfl rfl H107 ?_
       clear H107; intro a108 H108
       refine hfinA H108.sep ?_
       refine hgo 15 rfl (by kernel_rfl) ?_
       refine st_append rfl z_slice75 z_notint75 rfl rfl (fun _ => UU) (fun w hs => Src.slice ((rd_blkA MM) w hs) (by rw [List.length_map]; exact Tree.hash_len _) (by intro q hq; obtain ⟨y, _, rfl⟩ := List.mem_map.1 hq; rfl)) (by unfold maxLen at *; omega) (by omega) rfl rfl rfl H108 ?_
       clear H108; intro v109 a109 wx109 hnil109 H109
       obtain ⟨ArU, crU, hvrU, hRrU, hmrU⟩ := row_shape (v := v109) H109.sep MM
       subst hvrU
       refine hfinA H109.sep ?_
       refine htake 16 rfl (by kernel_rfl) (y_nilCheck rfl rfl) rfl rfl rfl (fun _ h => h.subA) H109 ?_
       clear H109; intro a110 H110
       refine htake 17 rfl (by kernel_rfl) (y_fieldB rfl z_field77_0 rfl (by first | (simp only [Nat.zero_add, Nat.add_zero, Nat.reduceAdd]; rfl) | rfl)) rfl rfl rfl (fun _ h => h.subA) H110 ?_
       clear H110; intro a111 H111
       refine hgo 18 rfl (by kernel_rfl) ?_
       refine st_store1N rfl z_size36 rfl rfl rfl UU q_len_c4 q_set_c4_0 (by decide) rfl rfl H111 ?_
       clear H111; intro wx112 H112
       refine hfinA H112.sep ?_
       refine htake 19 rfl (by kernel_rfl) (y_nilCheck rfl rfl) rfl rfl rfl (fun _ h => h.subA) H112 ?_
       clear H112; intro a113 H113
       refine htake 20 rfl (by kernel_rfl) (y_fieldB rfl z_field77_1 rfl (by first | (simp only [Nat.zero_add, Nat.add_zero, Nat.reduceAdd]; rfl) | rfl)) rfl rfl rfl (fun _ h => h.subA) H113 ?_
       clear H113; intro a114 H114
       refine hgo 21 rfl (by kernel_rfl) ?_
       refine st_store1N rfl z_size75 rfl rfl rfl UU q_len_c4 q_set_c4_1 (by decide) rfl rfl H114 ?_
       clear H114; intro wx115 H115
       refine hfinA H115.sep ?_
       refine hdone (by kernel_rfl) ?_
       refine then_n ?_
       refine wp_seq ?_
       refine reg ?_
       refine plain (y_loadAB rfl z_agg23 z_size23 rfl MM (q_ld_b32_0_32 (by first | assumption | exact Tree.hash_len _)) (q_len_b32 (by first | assumption | exact Tree.hash_len _))) rfl rfl rfl H115 ?_
       clear H115; intro a116 H116
       refine st_storeN rfl z_size23 rfl rfl (agg_cells _) UU q_one_b32 (q_len_b32 (by first | assumption | exact Tree.hash_len _)) (q_len_b32 (by first | assumption | exact Tree.hash_len _)) (q_spl_b32_0_b32 (by first | assumption | exact Tree.hash_len _) (by first | assumption | exact Tree.hash_len _)) (by decide) rfl rfl H116 ?_
       clear H116; intro wx117 H117
       refine plain (y_assign rfl rfl) rfl rfl rfl H117 ?_
       clear H117; intro a118 H118
       refine fin ?_
       refine then_n ?_
       refine wp_ret ?_
       -- return 7
       refine retct rfl H118 rfl z_agg23 z_size23 MM (q_len_b32 (by first | assumption | exact Tree.hash_len _)) rfl ?_
       have hz0 := Tree.mine_good hf2 hw2; rw [hz0]; refine ⟨_, _, rfl, ⟨(X ++ [(⟨(Tree.behind (Tree.bl X) its salt), A', c'⟩ : Inbox.BA)]), (.slice ArV (X.length + 1) crV), (.slice ArU (X.length + 1) crU), ⟨Tree.bl_app _ _, hX.app (Tree.Wfs.one hwB)⟩, rfl, rfl⟩, ?_⟩; rw [Tree.bc_append, Tree.bc_one, Tree.hs_one, hc_append, hc_one, List.length_append]; have hfz0 := (H118.front (is := [It.row 69 4 (.slice A' its.length c') its.length (Inbox.ic its), (Tree.It.fz X)]) (.cons PP (.cons PP (.nil _)))); simp only [List.cons_append, List.nil_append] at hfz0; have hfz := Tree.St.freeze (x := (⟨(Tree.behind (Tree.bl X) its salt), A', c'⟩ : Inbox.BA)) hfz0; exact (hfz.only (is := [It.row 26 35 (.slice ArV (X.length + 1) crV) (X.length + 1) (Inbox.bc X ++ Inbox.BA.cells (⟨(Tree.behind (Tree.bl X) its salt), A', c'⟩ : Inbox.BA)), It.row 23 32 (.slice ArU (X.length + 1) crU) (X.length + 1) (hc (Tree.hashes (Tree.bl X)) ++ (Tree.hash (Tree.behind (Tree.bl X) its salt)).1.map u8), It.blk c 77 [(.slice ArV (X.length + 1) crV), (.slice ArU (X.length + 1) crU), i64 dp, i64 de], (Tree.It.fz (X ++ [(⟨(Tree.behind (Tree.bl X) its salt), A', c'⟩ : Inbox.BA)]))]) (.cons PP (.cons PP (.cons PP (.cons PP (.nil _)))))).sep
      ·skip
       refine plain (y_loadB rfl z_agg75 rfl MM q_ix_c4_1) rfl rfl rfl H106 ?_
       clear H106; intro a119 H119
       refine hfinA H119.sep ?_
       refine hgo 8 rfl (by kernel_rfl) ?_
       refine st_append rfl z_slice36 z_notint36 rfl rfl (fun _ => UU) (fun w hs => Src.slice ((rd_blkA MM) w hs) (Inbox.BA.cells_len (x := (⟨(Tree.behind (Tree.bl X) its salt), A', c'⟩ : Inbox.BA)) (Tree.hash_len _)) (Tree.ba_cell (⟨(Tree.behind (Tree.bl X) its salt), A', c'⟩ : Inbox.BA))) (by unfold maxLen at *; omega) (by omega) rfl rfl rfl H119 ?_
       clear H119; intro v120 a120 wx120 hnil120 H120
       obtain ⟨ArV, crV, hvrV, hRrV, hmrV⟩ := row_shape (v := v120) H120.sep MM
       subst hvrV
       refine hfinA H120.sep ?_
       refine hgo 15 rfl (by kernel_rfl) ?_
       refine st_append rfl z_slice75 z_notint75 rfl rfl (fun _ => UU) (fun w hs => Src.slice ((rd_blkA MM) w hs) (by rw [List.length_map]; exact Tree.hash_len _) (by intro q hq; obtain ⟨y, _, rfl⟩ := List.mem_map.1 hq; rfl)) (by unfold maxLen at *; omega) (by omega) rfl rfl rfl H120 ?_
       clear H120; intro v121 a121 wx121 hnil121 H121
       obtain ⟨ArU, crU, hvrU, hRrU, hmrU⟩ := row_shape (v := v121) H121.sep MM
       subst hvrU
       refine hfinA H121.sep ?_
       refine htake 16 rfl (by kernel_rfl) (y_nilCheck rfl rfl) rfl rfl rfl (fun _ h => h.subA) H121 ?_
       clear H121; intro a122 H122
       refine htake 17 rfl (by kernel_rfl) (y_fieldB rfl z_field77_0 rfl (by first | (simp only [Nat.zero_add, Nat.add_zero, Nat.reduceAdd]; rfl) | rfl)) rfl rfl rfl (fun _ h => h.subA) H122 ?_
       clear H122; intro a123 H123
       refine hgo 18 rfl (by kernel_rfl) ?_
       refine st_store1N rfl z_size36 rfl rfl rfl UU q_len_c4 q_set_c4_0 (by decide) rfl rfl H123 ?_
       clear H123; intro wx124 H124
       refine hfinA H124.sep ?_
       refine htake 19 rfl (by kernel_rfl) (y_nilCheck rfl rfl) rfl rfl rfl (fun _ h => h.subA) H124 ?_
       clear H124; intro a125 H125
       refine htake 20 rfl (by kernel_rfl) (y_fieldB rfl z_field77_1 rfl (by first | (simp only [Nat.zero_add, Nat.add_zero, Nat.reduceAdd]; rfl) | rfl)) rfl rfl rfl (fun _ h => h.subA) H125 ?_
       clear H125; intro a126 H126
       refine hgo 21 rfl (by kernel_rfl) ?_
       refine st_store1N rfl z_size75 rfl rfl rfl UU q_len_c4 q_set_c4_1 (by decide) rfl rfl H126 ?_
       clear H126; intro wx127 H127
       refine hfinA H127.sep ?_
       refine hdone (by kernel_rfl) ?_
       refine then_n ?_
       refine wp_seq ?_
       refine reg ?_
       refine plain (y_loadAB rfl z_agg23 z_size23 rfl MM (q_ld_b32_0_32 (by first | assumption | exact Tree.hash_len _)) (q_len_b32 (by first | assumption | exact Tree.hash_len _))) rfl rfl rfl H127 ?_
       clear H127; intro a128 H128
       refine st_storeN rfl z_size23 rfl rfl (agg_cells _) UU q_one_b32 (q_len_b32 (by first | assumption | exact Tree.hash_len _)) (q_len_b32 (by first | assumption | exact Tree.hash_len _)) (q_spl_b32_0_b32 (by first | assumption | exact Tree.hash_len _) (by first | assumption | exact Tree.hash_len _)) (by decide) rfl rfl H128 ?_
       clear H128; intro wx129 H129
       refine plain (y_assign rfl rfl) rfl rfl rfl H129 ?_
       clear H129; intro a130 H130
       refine fin ?_
       refine then_n ?_
       refine wp_ret ?_
       -- return 8
       refine retct rfl H130 rfl z_agg23 z_size23 MM (q_len_b32 (by first | assumption | exact Tree.hash_len _)) rfl ?_
       have hz0 := Tree.mine_good hf2 hw2; rw [hz0]; refine ⟨_, _, rfl, ⟨(X ++ [(⟨(Tree.behind (Tree.bl X) its salt), A', c'⟩ : Inbox.BA)]), (.slice ArV (X.length + 1) crV), (.slice ArU (X.length + 1) crU), ⟨Tree.bl_app _ _, hX.app (Tree.Wfs.one hwB)⟩, rfl, rfl⟩, ?_⟩; rw [Tree.bc_append, Tree.bc_one, Tree.hs_one, hc_append, hc_one, List.length_append]; have hfz0 := (H130.front (is := [It.row 69 4 (.slice A' its.length c') its.length (Inbox.ic its), (Tree.It.fz X)]) (.cons PP (.cons PP (.nil _)))); simp only [List.cons_append, List.nil_append] at hfz0; have hfz := Tree.St.freeze (x := (⟨(Tree.behind (Tree.bl X) its salt), A', c'⟩ : Inbox.BA)) hfz0; exact (hfz.only (is := [It.row 26 35 (.slice ArV (X.length + 1) crV) (X.length + 1) (Inbox.bc X ++ Inbox.BA.cells (⟨(Tree.behind (Tree.bl X) its salt), A', c'⟩ : Inbox.BA)), It.row 23 32 (.slice ArU (X.length + 1) crU) (X.length + 1) (hc (Tree.hashes (Tree.bl X)) ++ (Tree.hash (Tree.behind (Tree.bl X) its salt)).1.map u8), It.blk c 77 [(.slice ArV (X.length + 1) crV), (.slice ArU (X.length + 1) crU), i64 dp, i64 de], (Tree.It.fz (X ++ [(⟨(Tree.behind (Tree.bl X) its salt), A', c'⟩ : Inbox.BA)]))]) (.cons PP (.cons PP (.cons PP (.cons PP (.nil _)))))).sep
    ·skip
     refine plain (y_loadB rfl z_agg75 rfl MM q_ix_c4_1) rfl rfl rfl H54 ?_
     clear H54; intro a131 H131
     refine hfinA H131.sep ?_
     refine hgo2 7 14 rfl rfl (by kernel_rfl) ?_ ?_
     ·skip
      refine st_buildSlice rfl Tryd.underlying36 z_size26 z_zero26 rfl rfl rfl (lay_agg (agg_cells _) (Inbox.BA.cells_len (x := (⟨(Tree.behind (Tree.bl X) its salt), A', c'⟩ : Inbox.BA)) (Tree.hash_len _)) rfl) rfl rfl rfl H131 ?_
      clear H131; intro b132 a132 wx132 H132
      refine hfinA H132.sep ?_
      refine hgo2 8 14 rfl rfl (by kernel_rfl) ?_ ?_
      ·skip
       refine st_append rfl z_slice36 z_notint36 rfl rfl (fun _ => UU) (fun w hs => Src.slice ((rd_blkA MM) w hs) (Inbox.BA.cells_len (x := (⟨(Tree.behind (Tree.bl X) its salt), A', c'⟩ : Inbox.BA)) (Tree.hash_len _)) (Tree.ba_cell (⟨(Tree.behind (Tree.bl X) its salt), A', c'⟩ : Inbox.BA))) (by unfold maxLen at *; omega) (by omega) rfl rfl rfl H132 ?_
       clear H132; intro v133 a133 wx133 hnil133 H133
       obtain ⟨ArV, crV, hvrV, hRrV, hmrV⟩ := row_shape (v := v133) H133.sep MM
       subst hvrV
       refine hfinA H133.sep ?_
       refine hgo 14 rfl (by kernel_rfl) ?_
       refine st_buildSlice rfl Tryd.underlying75 z_size23 z_zero23 rfl rfl rfl (lay_agg (agg_cells _) (by rw [List.length_map]; exact Tree.hash_len _) rfl) rfl rfl rfl H133 ?_
       clear H133; intro b134 a134 wx134 H134
       refine hfinA H134.sep ?_
       refine hgo 15 rfl (by kernel_rfl) ?_
       refine st_append rfl z_slice75 z_notint75 rfl rfl (fun _ => UU) (fun w hs => Src.slice ((rd_blkA MM) w hs) (by rw [List.length_map]; exact Tree.hash_len _) (by intro q hq; obtain ⟨y, _, rfl⟩ := List.mem_map.1 hq; rfl)) (by unfold maxLen at *; omega) (by omega) rfl rfl rfl H134 ?_
       clear H134; intro v135 a135 wx135 hnil135 H135
       obtain ⟨ArU, crU, hvrU, hRrU, hmrU⟩ := row_shape (v := v135) H135.sep MM
       subst hvrU
       refine hfinA H135.sep ?_
       refine htake 16 rfl (by kernel_rfl) (y_nilCheck rfl rfl) rfl rfl rfl (fun _ h => h.subA) H135 ?_
       clear H135; intro a136 H136
       refine htake 17 rfl (by kernel_rfl) (y_fieldB rfl z_field77_0 rfl (by first | (simp only [Nat.zero_add, Nat.add_zero, Nat.reduceAdd]; rfl) | rfl)) rfl rfl rfl (fun _ h => h.subA) H136 ?_
       clear H136; intro a137 H137
       refine hgo 18 rfl (by kernel_rfl) ?_
       refine st_store1N rfl z_size36 rfl rfl rfl UU q_len_c4 q_set_c4_0 (by decide) rfl rfl H137 ?_
       clear H137; intro wx138 H138
       refine hfinA H138.sep ?_
       refine htake 19 rfl (by kernel_rfl) (y_nilCheck rfl rfl) rfl rfl rfl (fun _ h => h.subA) H138 ?_
       clear H138; intro a139 H139
       refine htake 20 rfl (by kernel_rfl) (y_fieldB rfl z_field77_1 rfl (by first | (simp only [Nat.zero_add, Nat.add_zero, Nat.reduceAdd]; rfl) | rfl)) rfl rfl rfl (fun _ h => h.subA) H139 ?_
       clear H139; intro a140 H140
       refine hgo 21 rfl (by kernel_rfl) ?_
       refine st_store1N rfl z_size75 rfl rfl rfl UU q_len_c4 q_set_c4_1 (by decide) rfl rfl H140 ?_
       clear H140; intro wx141 H141
       refine hfinA H141.sep ?_
       refine hdone (by kernel_rfl) ?_
       refine then_n ?_
       refine wp_seq ?_
       refine reg ?_
       refine plain (y_loadAB rfl z_agg23 z_size23 rfl MM (q_ld_b32_0_32 (by first | assumption | exact Tree.hash_len _)) (q_len_b32 (by first | assumption | exact Tree.hash_len _))) rfl rfl rfl H141 ?_
       clear H141; intro a142 H142
       refine st_storeN rfl z_size23 rfl rfl (agg_cells _) UU q_one_b32 (q_len_b32 (by first | assumption | exact Tree.hash_len _)) (q_len_b32 (by first | assumption | exact Tree.hash_len _)) (q_spl_b32_0_b32 (by first | assumption | exact Tree.hash_len _) (by first | assumption | exact Tree.hash_len _)) (by decide) rfl rfl H142 ?_
       clear H142; intro wx143 H143
       refine plain (y_assign rfl rfl) rfl rfl rfl H143 ?_
       clear H143; intro a144 H144
       refine fin ?_
       refine then_n ?_
       refine wp_ret ?_
       -- return 9
       refine retct rfl H144 rfl z_agg23 z_size23 MM (q_len_b32 (by first | assumption | exact Tree.hash_len _)) rfl ?_
       have hz0 := Tree.mine_good hf2 hw2; rw [hz0]; refine ⟨_, _, rfl, ⟨(X ++ [(⟨(Tree.behind (Tree.bl X) its salt), A', c'⟩ : Inbox.BA)]), (.slice ArV (X.length + 1) crV), (.slice ArU (X.length + 1) crU), ⟨Tree.bl_app _ _, hX.app (Tree.Wfs.one hwB)⟩, rfl, rfl⟩, ?_⟩; rw [Tree.bc_append, Tree.bc_one, Tree.hs_one, hc_append, hc_one, List.length_append]; have hfz0 := (H144.front (is := [It.row 69 4 (.slice A' its.length c') its.length (Inbox.ic its), (Tree.It.fz X)]) (.cons PP (.cons PP (.nil _)))); simp only [List.cons_append, List.nil_append] at hfz0; have hfz := Tree.St.freeze (x := (⟨(Tree.behind (Tree.bl X) its salt), A', c'⟩ : Inbox.BA)) hfz0; exact (hfz.only (is := [It.row 26 35 (.slice ArV (X.length + 1) crV) (X.length + 1) (Inbox.bc X ++ Inbox.BA.cells (⟨(Tree.behind (Tree.bl X) its salt), A', c'⟩ : Inbox.BA)), It.row 23 32 (.slice ArU (X.length + 1) crU) (X.length + 1) (hc (Tree.hashes (Tree.bl X)) ++ (Tree.hash (Tree.behind (Tree.bl X) its salt)).1.map u8), It.blk c 77 [(.slice ArV (X.length + 1) crV), (.slice ArU (X.length + 1) crU), i64 dp, i64 de], (Tree.It.fz (X ++ [(⟨(Tree.behind (Tree.bl X) its salt), A', c'⟩ : Inbox.BA)]))]) (.cons PP (.cons PP (.cons PP (.cons PP (.nil _)))))).sep
      ·skip
       refine st_buildSlice rfl Tryd.underlying75 z_size23 z_zero23 rfl rfl rfl (lay_agg (agg_cells _) (by rw [List.length_map]; exact Tree.hash_len _) rfl) rfl rfl rfl H132 ?_
       clear H132; intro b145 a145 wx145 H145
       refine hfinA H145.sep ?_
       refine hgo 8 rfl (by kernel_rfl) ?_
       refine st_append rfl z_slice36 z_notint36 rfl rfl (fun _ => UU) (fun w hs => Src.slice ((rd_blkA MM) w hs) (Inbox.BA.cells_len (x := (⟨(Tree.behind (Tree.bl X) its salt), A', c'⟩ : Inbox.BA)) (Tree.hash_len _)) (Tree.ba_cell (⟨(Tree.behind (Tree.bl X) its salt), A', c'⟩ : Inbox.BA))) (by unfold maxLen at *; omega) (by omega) rfl rfl rfl H145 ?_
       clear H145; intro v146 a146 wx146 hnil146 H146
       obtain ⟨ArV, crV, hvrV, hRrV, hmrV⟩ := row_shape (v := v146) H146.sep MM
       subst hvrV
       refine hfinA H146.sep ?_
       refine hgo 15 rfl (by kernel_rfl) ?_
       refine st_append rfl z_slice75 z_notint75 rfl rfl (fun _ => UU) (fun w hs => Src.slice ((rd_blkA MM) w hs) (by rw [List.length_map]; exact Tree.hash_len _) (by intro q hq; obtain ⟨y, _, rfl⟩ := List.mem_map.1 hq; rfl)) (by unfold maxLen at *; omega) (by omega) rfl rfl rfl H146 ?_
       clear H146; intro v147 a147 wx147 hnil147 H147
       obtain ⟨ArU, crU, hvrU, hRrU, hmrU⟩ := row_shape (v := v147) H147.sep MM
       subst hvrU
       refine hfinA H147.sep ?_
       refine htake 16 rfl (by kernel_rfl) (y_nilCheck rfl rfl) rfl rfl rfl (fun _ h => h.subA) H147 ?_
       clear H147; intro a148 H148
       refine htake 17 rfl (by kernel_rfl) (y_fieldB rfl z_field77_0 rfl (by first | (simp only [Nat.zero_add, Nat.add_zero, Nat.reduceAdd]; rfl) | rfl)) rfl rfl rfl (fun _ h => h.subA) H148 ?_
       clear H148; intro a149 H149
       refine hgo 18 rfl (by kernel_rfl) ?_
       refine st_store1N rfl z_size36 rfl rfl rfl UU q_len_c4 q_set_c4_0 (by decide) rfl rfl H149 ?_
       clear H149; intro wx150 H150
       refine hfinA H150.sep ?_
       refine htake 19 rfl (by kernel_rfl) (y_nilCheck rfl rfl) rfl rfl rfl (fun _ h => h.subA) H150 ?_
       clear H150; intro a151 H151
       refine htake 20 rfl (by kernel_rfl) (y_fieldB rfl z_field77_1 rfl (by first | (simp only [Nat.zero_add, Nat.add_zero, Nat.reduceAdd]; rfl) | rfl)) rfl rfl rfl (fun _ h => h.subA) H151 ?_
       clear H151; intro a152 H152
       refine hgo 21 rfl (by kernel_rfl) ?_
       refine st_store1N rfl z_size75 rfl rfl rfl UU q_len_c4 q_set_c4_1 (by decide) rfl rfl H152 ?_
       clear H152; intro wx153 H153
       refine hfinA H153.sep ?_
       refine hdone (by kernel_rfl) ?_
       refine then_n ?_
       refine wp_seq ?_
       refine reg ?_
       refine plain (y_loadAB rfl z_agg23 z_size23 rfl MM (q_ld_b32_0_32 (by first | assumption | exact Tree.hash_len _)) (q_len_b32 (by first | assumption | exact Tree.hash_len _))) rfl rfl rfl H153 ?_
       clear H153; intro a154 H154
       refine st_storeN rfl z_size23 rfl rfl (agg_cells _) UU q_one_b32 (q_len_b32 (by first | assumption | exact Tree.hash_len _)) (q_len_b32 (by first | assumption | exact Tree.hash_len _)) (q_spl_b32_0_b32 (by first | assumption | exact Tree.hash_len _) (by first | assumption | exact Tree.hash_len _)) (by decide) rfl rfl H154 ?_
       clear H154; intro wx155 H155
       refine plain (y_assign rfl rfl) rfl rfl rfl H155 ?_
       clear H155; intro a156 H156
       refine fin ?_
       refine then_n ?_
       refine wp_ret ?_
       -- return 10
       refine retct rfl H156 rfl z_agg23 z_size23 MM (q_len_b32 (by first | assumption | exact Tree.hash_len _)) rfl ?_
       have hz0 := Tree.mine_good hf2 hw2; rw [hz0]; refine ⟨_, _, rfl, ⟨(X ++ [(⟨(Tree.behind (Tree.bl X) its salt), A', c'⟩ : Inbox.BA)]), (.slice ArV (X.length + 1) crV), (.slice ArU (X.length + 1) crU), ⟨Tree.bl_app _ _, hX.app (Tree.Wfs.one hwB)⟩, rfl, rfl⟩, ?_⟩; rw [Tree.bc_append, Tree.bc_one, Tree.hs_one, hc_append, hc_one, List.length_append]; have hfz0 := (H156.front (is := [It.row 69 4 (.slice A' its.length c') its.length (Inbox.ic its), (Tree.It.fz X)]) (.cons PP (.cons PP (.nil _)))); simp only [List.cons_append, List.nil_append] at hfz0; have hfz := Tree.St.freeze (x := (⟨(Tree.behind (Tree.bl X) its salt), A', c'⟩ : Inbox.BA)) hfz0; exact (hfz.only (is := [It.row 26 35 (.slice ArV (X.length + 1) crV) (X.length + 1) (Inbox.bc X ++ Inbox.BA.cells (⟨(Tree.behind (Tree.bl X) its salt), A', c'⟩ : Inbox.BA)), It.row 23 32 (.slice ArU (X.length + 1) crU) (X.length + 1) (hc (Tree.hashes (Tree.bl X)) ++ (Tree.hash (Tree.behind (Tree.bl X) its salt)).1.map u8), It.blk c 77 [(.slice ArV (X.length + 1) crV), (.slice ArU (X.length + 1) crU), i64 dp, i64 de], (Tree.It.fz (X ++ [(⟨(Tree.behind (Tree.bl X) its salt), A', c'⟩ : Inbox.BA)]))]) (.cons PP (.cons PP (.cons PP (.cons PP (.nil _)))))).sep
     ·skip
      refine st_buildSlice rfl Tryd.underlying75 z_size23 z_zero23 rfl rfl rfl (lay_agg (agg_cells _) (by rw [List.length_map]; exact Tree.hash_len _) rfl) rfl rfl rfl H131 ?_
      clear H131; intro b157 a157 wx157 H157
      refine hfinA H157.sep ?_
      refine hgo 7 rfl (by kernel_rfl) ?_
      refine st_buildSlice rfl Tryd.underlying36 z_size26 z_zero26 rfl rfl rfl (lay_agg (agg_cells _) (Inbox.BA.cells_len (x := (⟨(Tree.behind (Tree.bl X) its salt), A', c'⟩ : Inbox.BA)) (Tree.hash_len _)) rfl) rfl rfl rfl H157 ?_
      clear H157; intro b158 a158 wx158 H158
      refine hfinA H158.sep ?_
      refine hgo 8 rfl (by kernel_rfl) ?_
      refine st_append rfl z_slice36 z_notint36 rfl rfl (fun _ => UU) (fun w hs => Src.slice ((rd_blkA MM) w hs) (Inbox.BA.cells_len (x := (⟨(Tree.behind (Tree.bl X) its salt), A', c'⟩ : Inbox.BA)) (Tree.hash_len _)) (Tree.ba_cell (⟨(Tree.behind (Tree.bl X) its salt), A', c'⟩ : Inbox.BA))) (by unfold maxLen at *; omega) (by omega) rfl rfl rfl H158 ?_
      clear H158; intro v159 a159 wx159 hnil159 H159
      obtain ⟨ArV, crV, hvrV, hRrV, hmrV⟩ := row_shape (v := v159) H159.sep MM
      subst hvrV
      refine hfinA H159.sep ?_
      refine hgo 15 rfl (by kernel_rfl) ?_
      refine st_append rfl z_slice75 z_notint75 rfl rfl (fun _ => UU) (fun w hs => Src.slice ((rd_blkA MM) w hs) (by rw [List.length_map]; exact Tree.hash_len _) (by intro q hq; obtain ⟨y, _, rfl⟩ := List.mem_map.1 hq; rfl)) (by unfold maxLen at *; omega) (by omega) rfl rfl rfl H159 ?_
      clear H159; intro v160 a160 wx160 hnil160 H160
      obtain ⟨ArU, crU, hvrU, hRrU, hmrU⟩ := row_shape (v := v160) H160.sep MM
      subst hvrU
      refine hfinA H160.sep ?_
      refine htake 16 rfl (by kernel_rfl) (y_nilCheck rfl rfl) rfl rfl rfl (fun _ h => h.subA) H160 ?_
      clear H160; intro a161 H161
      refine htake 17 rfl (by kernel_rfl) (y_fieldB rfl z_field77_0 rfl (by first | (simp only [Nat.zero_add, Nat.add_zero, Nat.reduceAdd]; rfl) | rfl)) rfl rfl rfl (fun _ h => h.subA) H161 ?_
      clear H161; intro a162 H162
      refine hgo 18 rfl (by kernel_rfl) ?_
      refine st_store1N rfl z_size36 rfl rfl rfl UU q_len_c4 q_set_c4_0 (by decide) rfl rfl H162 ?_
      clear H162; intro wx163 H163
      refine hfinA H163.sep ?_
      refine htake 19 rfl (by kernel_rfl) (y_nilCheck rfl rfl) rfl rfl rfl (fun _ h => h.subA) H163 ?_
      clear H163; intro a164 H164
      refine htake 20 rfl (by kernel_rfl) (y_fieldB rfl z_field77_1 rfl (by first | (simp only [Nat.zero_add, Nat.add_zero, Nat.reduceAdd]; rfl) | rfl)) rfl rfl rfl (fun _ h => h.subA) H164 ?_
      clear H164; intro a165 H165
      refine hgo 21 rfl (by kernel_rfl) ?_
      refine st_store1N rfl z_size75 rfl rfl rfl UU q_len_c4 q_set_c4_1 (by decide) rfl rfl H165 ?_
      clear H165; intro wx166 H166
      refine hfinA H166.sep ?_
      refine hdone (by kernel_rfl) ?_
      refine then_n ?_
      refine wp_seq ?_
      refine reg ?_
      refine plain (y_loadAB rfl z_agg23 z_size23 rfl MM (q_ld_b32_0_32 (by first | assumption | exact Tree.hash_len _)) (q_len_b32 (by first | assumption | exact Tree.hash_len _))) rfl rfl rfl H166 ?_
      clear H166; intro a167 H167
      refine st_storeN rfl z_size23 rfl rfl (agg_cells _) UU q_one_b32 (q_len_b32 (by first | assumption | exact Tree.hash_len _)) (q_len_b32 (by first | assumption | exact Tree.hash_len _)) (q_spl_b32_0_b32 (by first | assumption | exact Tree.hash_len _) (by first | assumption | exact Tree.hash_len _)) (by decide) rfl rfl H167 ?_
      clear H167; intro wx168 H168
      refine plain (y_assign rfl rfl) rfl rfl rfl H168 ?_
      clear H168; intro a169 H169
      refine fin ?_
      refine then_n ?_
      refine wp_ret ?_
      -- return 11
      refine retct rfl H169 rfl z_agg23 z_size23 MM (q_len_b32 (by first | assumption | exact Tree.hash_len _)) rfl ?_
      have hz0 := Tree.mine_good hf2 hw2; rw [hz0]; refine ⟨_, _, rfl, ⟨(X ++ [(⟨(Tree.behind (Tree.bl X) its salt), A', c'⟩ : Inbox.BA)]), (.slice ArV (X.length + 1) crV), (.slice ArU (X.length + 1) crU), ⟨Tree.bl_app _ _, hX.app (Tree.Wfs.one hwB)⟩, rfl, rfl⟩, ?_⟩; rw [Tree.bc_append, Tree.bc_one, Tree.hs_one, hc_append, hc_one, List.length_append]; have hfz0 := (H169.front (is := [It.row 69 4 (.slice A' its.length c') its.length (Inbox.ic its), (Tree.It.fz X)]) (.cons PP (.cons PP (.nil _)))); simp only [List.cons_append, List.nil_append] at hfz0; have hfz := Tree.St.freeze (x := (⟨(Tree.behind (Tree.bl X) its salt), A', c'⟩ : Inbox.BA)) hfz0; exact (hfz.only (is := [It.row 26 35 (.slice ArV (X.length + 1) crV) (X.length + 1) (Inbox.bc X ++ Inbox.BA.cells (⟨(Tree.behind (Tree.bl X) its salt), A', c'⟩ : Inbox.BA)), It.row 23 32 (.slice ArU (X.length + 1) crU) (X.length + 1) (hc (Tree.hashes (Tree.bl X)) ++ (Tree.hash (Tree.behind (Tree.bl X) its salt)).1.map u8), It.blk c 77 [(.slice ArV (X.length + 1) crV), (.slice ArU (X.length + 1) crU), i64 dp, i64 de], (Tree.It.fz (X ++ [(⟨(Tree.behind (Tree.bl X) its salt), A', c'⟩ : Inbox.BA)]))]) (.cons PP (.cons PP (.cons PP (.cons PP (.nil _)))))).sep
    ·skip
     refine st_buildSlice rfl Tryd.underlying75 z_size23 z_zero23 rfl rfl rfl (lay_agg (agg_cells _) (by rw [List.length_map]; exact Tree.hash_len _) rfl) rfl rfl rfl H54 ?_
     clear H54; intro b170 a170 wx170 H170
     refine hfinA H170.sep ?_
     refine hgo2 7 12 rfl rfl (by kernel_rfl) ?_ ?_
     ·skip
      refine st_buildSlice rfl Tryd.underlying36 z_size26 z_zero26 rfl rfl rfl (lay_agg (agg_cells _) (Inbox.BA.cells_len (x := (⟨(Tree.behind (Tree.bl X) its salt), A', c'⟩ : Inbox.BA)) (Tree.hash_len _)) rfl) rfl rfl rfl H170 ?_
      clear H170; intro b171 a171 wx171 H171
      refine hfinA H171.sep ?_
      refine hgo2 8 12 rfl rfl (by kernel_rfl) ?_ ?_
      ·skip
       refine st_append rfl z_slice36 z_notint36 rfl rfl (fun _ => UU) (fun w hs => Src.slice ((rd_blkA MM) w hs) (Inbox.BA.cells_len (x := (⟨(Tree.behind (Tree.bl X) its salt), A', c'⟩ : Inbox.BA)) (Tree.hash_len _)) (Tree.ba_cell (⟨(Tree.behind (Tree.bl X) its salt), A', c'⟩ : Inbox.BA))) (by unfold maxLen at *; omega) (by omega) rfl rfl rfl H171 ?_
       clear H171; intro v172 a172 wx172 hnil172 H172
       obtain ⟨ArV, crV, hvrV, hRrV, hmrV⟩ := row_shape (v := v172) H172.sep MM
       subst hvrV
       refine hfinA H172.sep ?_
       refine hgo 12 rfl (by kernel_rfl) ?_
       refine plain (y_loadB rfl z_agg75 rfl MM q_ix_c4_1) rfl rfl rfl H172 ?_
       clear H172; intro a173 H173
       refine hfinA H173.sep ?_
       refine hgo 15 rfl (by kernel_rfl) ?_
       refine st_append rfl z_slice75 z_notint75 rfl rfl (fun _ => UU) (fun w hs => Src.slice ((rd_blkA MM) w hs) (by rw [List.length_map]; exact Tree.hash_len _) (by intro q hq; obtain ⟨y, _, rfl⟩ := List.mem_map.1 hq; rfl)) (by unfold maxLen at *; omega) (by omega) rfl rfl rfl H173 ?_
       clear H173; intro v174 a174 wx174 hnil174 H174
       obtain ⟨ArU, crU, hvrU, hRrU, hmrU⟩ := row_shape (v := v174) H174.sep MM
       subst hvrU
       refine hfinA H174.sep ?_
       refine htake 16 rfl (by kernel_rfl) (y_nilCheck rfl rfl) rfl rfl rfl (fun _ h => h.subA) H174 ?_
       clear H174; intro a175 H175
       refine htake 17 rfl (by kernel_rfl) (y_fieldB rfl z_field77_0 rfl (by first | (simp only [Nat.zero_add, Nat.add_zero, Nat.reduceAdd]; rfl) | rfl)) rfl rfl rfl (fun _ h => h.subA) H175 ?_
       clear H175; intro a176 H176
       refine hgo 18 rfl (by kernel_rfl) ?_
       refine st_store1N rfl z_size36 rfl rfl rfl UU q_len_c4 q_set_c4_0 (by decide) rfl rfl H176 ?_
       clear H176; intro wx177 H177
       refine hfinA H177.sep ?_
       refine htake 19 rfl (by kernel_rfl) (y_nilCheck rfl rfl) rfl rfl rfl (fun _ h => h.subA) H177 ?_
       clear H177; intro a178 H178
       refine htake 20 rfl (by kernel_rfl) (y_fieldB rfl z_field77_1 rfl (by first | (simp only [Nat.zero_add, Nat.add_zero, Nat.reduceAdd]; rfl) | rfl)) rfl rfl rfl (fun _ h => h.subA) H178 ?_
       clear H178; intro a179 H179
       refine hgo 21 rfl (by kernel_rfl) ?_
       refine st_store1N rfl z_size75 rfl rfl rfl UU q_len_c4 q_set_c4_1 (by decide) rfl rfl H179 ?_
       clear H179; intro wx180 H180
       refine hfinA H180.sep ?_
       refine hdone (by kernel_rfl) ?_
       refine then_n ?_
       refine wp_seq ?_
       refine reg ?_
       refine plain (y_loadAB rfl z_agg23 z_size23 rfl MM (q_ld_b32_0_32 (by first | assumption | exact Tree.hash_len _)) (q_len_b32 (by first | assumption | exact Tree.hash_len _))) rfl rfl rfl H180 ?_
       clear H180; intro a181 H181
       refine st_storeN rfl z_size23 rfl rfl (agg_cells _) UU q_one_b32 (q_len_b32 (by first | assumption | exact Tree.hash_len _)) (q_len_b32 (by first | assumption | exact Tree.hash_len _)) (q_spl_b32_0_b32 (by first | assumption | exact Tree.hash_len _) (by first | assumption | exact Tree.hash_len _)) (by decide) rfl rfl H181 ?_
       clear H181; intro wx182 H182
       refine plain (y_assign rfl rfl) rfl rfl rfl H182 ?_
       clear H182; intro a183 H183
       refine fin ?_
       refine then_n ?_
       refine wp_ret ?_
       -- return 12
       refine retct rfl H183 rfl z_agg23 z_size23 MM (q_len_b32 (by first | assumption | exact Tree.hash_len _)) rfl ?_
       have hz0 := Tree.mine_good hf2 hw2; rw [hz0]; refine ⟨_, _, rfl, ⟨(X ++ [(⟨(Tree.behind (Tree.bl X) its salt), A', c'⟩ : Inbox.BA)]), (.slice ArV (X.length + 1) crV), (.slice ArU (X.length + 1) crU), ⟨Tree.bl_app _ _, hX.app (Tree.Wfs.one hwB)⟩, rfl, rfl⟩, ?_⟩; rw [Tree.bc_append, Tree.bc_one, Tree.hs_one, hc_append, hc_one, List.length_append]; have hfz0 := (H183.front (is := [It.row 69 4 (.slice A' its.length c') its.length (Inbox.ic its), (Tree.It.fz X)]) (.cons PP (.cons PP (.nil _)))); simp only [List.cons_append, List.nil_append] at hfz0; have hfz := Tree.St.freeze (x := (⟨(Tree.behind (Tree.bl X) its salt), A', c'⟩ : Inbox.BA)) hfz0; exact (hfz.only (is := [It.row 26 35 (.slice ArV (X.length + 1) crV) (X.length + 1) (Inbox.bc X ++ Inbox.BA.cells (⟨(Tree.behind (Tree.bl X) its salt), A', c'⟩ : Inbox.BA)), It.row 23 32 (.slice ArU (X.length + 1) crU) (X.length + 1) (hc (Tree.hashes (Tree.bl X)) ++ (Tree.hash (Tree.behind (Tree.bl X) its salt)).1.map u8), It.blk c 77 [(.slice ArV (X.length + 1) crV), (.slice ArU (X.length + 1) crU), i64 dp, i64 de], (Tree.It.fz (X ++ [(⟨(Tree.behind (Tree.bl X) its salt), A', c'⟩ : Inbox.BA)]))]) (.cons PP (.cons PP (.cons PP (.cons PP (.nil _)))))).sep
      ·skip
       refine plain (y_loadB rfl z_agg75 rfl MM q_ix_c4_1) rfl rfl rfl H171 ?_
       clear H171; intro a184 H184
       refine hfinA H184.sep ?_
       refine hgo 8 rfl (by kernel_rfl) ?_
       refine st_append rfl z_slice36 z_notint36 rfl rfl (fun _ => UU) (fun w hs => Src.slice ((rd_blkA MM) w hs) (Inbox.BA.cells_len (x := (⟨(Tree.behind (Tree.bl X) its salt), A', c'⟩ : Inbox.BA)) (Tree.hash_len _)) (Tree.ba_cell (⟨(Tree.behind (Tree.bl X) its salt), A', c'⟩ : Inbox.BA))) (by unfold maxLen at *; omega) (by omega) rfl rfl rfl H184 ?_
       clear H184; intro v185 a185 wx185 hnil185 H185
       obtain ⟨ArV, crV, hvrV, hRrV, hmrV⟩ := row_shape (v := v185) H185.sep MM
       subst hvrV
       refine hfinA H185.sep ?_
       refine hgo 15 rfl (by kernel_rfl) ?_
       refine st_append rfl z_slice75 z_notint75 rfl rfl (fun _ => UU) (fun w hs => Src.slice ((rd_blkA MM) w hs) (by rw [List.length_map]; exact Tree.hash_len _) (by intro q hq; obtain ⟨y, _, rfl⟩ := List.mem_map.1 hq; rfl)) (by unfold maxLen at *; omega) (by omega) rfl rfl rfl H185 ?_
       clear H185; intro v186 a186 wx186 hnil186 H186
       obtain ⟨ArU, crU, hvrU, hRrU, hmrU⟩ := row_shape (v := v186) H186.sep MM
       subst hvrU
       refine hfinA H186.sep ?_
       refine htake 16 rfl (by kernel_rfl) (y_nilCheck rfl rfl) rfl rfl rfl (fun _ h => h.subA) H186 ?_
       clear H186; intro a187 H187
       refine htake 17 rfl (by kernel_rfl) (y_fieldB rfl z_field77_0 rfl (by first | (simp only [Nat.zero_add, Nat.add_zero, Nat.reduceAdd]; rfl) | rfl)) rfl rfl rfl (fun _ h => h.subA) H187 ?_
       clear H187; intro a188 H188
       refine hgo 18 rfl (by kernel_rfl) ?_
       refine st_store1N rfl z_size36 rfl rfl rfl UU q_len_c4 q_set_c4_0 (by decide) rfl rfl H188 ?_
       clear H188; intro wx189 H189
       refine hfinA H189.sep ?_
       refine htake 19 rfl (by kernel_rfl) (y_nilCheck rfl rfl) rfl rfl rfl (fun _ h => h.subA) H189 ?_
       clear H189; intro a190 H190
       refine htake 20 rfl (by kernel_rfl) (y_fieldB rfl z_field77_1 rfl (by first | (simp only [Nat.zero_add, Nat.add_zero, Nat.reduceAdd]; rfl) | rfl)) rfl rfl rfl (fun _ h => h.subA) H190 ?_
       clear H190; intro a191 H191
       refine hgo 21 rfl (by kernel_rfl) ?_
       refine st_store1N rfl z_size75 rfl rfl rfl UU q_len_c4 q_set_c4_1 (by decide) rfl rfl H191 ?_
       clear H191; intro wx192 H192
       refine hfinA H192.sep ?_
       refine hdone (by kernel_rfl) ?_
       refine then_n ?_
       refine wp_seq ?_
       refine reg ?_
       refine plain (y_loadAB rfl z_agg23 z_size23 rfl MM (q_ld_b32_0_32 (by first | assumption | exact Tree.hash_len _)) (q_len_b32 (by first | assumption | exact Tree.hash_len _))) rfl rfl rfl H192 ?_
       clear H192; intro a193 H193
       refine st_storeN rfl z_size23 rfl rfl (agg_cells _) UU q_one_b32 (q_len_b32 (by first | assumption | exact Tree.hash_len _)) (q_len_b32 (by first | assumption | exact Tree.hash_len _)) (q_spl_b32_0_b32 (by first | assumption | exact Tree.hash_len _) (by first | assumption | exact Tree.hash_len _)) (by decide) rfl rfl H193 ?_
       clear H193; intro wx194 H194
       refine plain (y_assign rfl rfl) rfl rfl rfl H194 ?_
       clear H194; intro a195 H195
       refine fin ?_
       refine then_n ?_
       refine wp_ret ?_
       -- return 13
       refine retct rfl H195 rfl z_agg23 z_size23 MM (q_len_b32 (by first | assumption | exact Tree.hash_len _)) rfl ?_
       have hz0 := Tree.mine_good hf2 hw2; rw [hz0]; refine ⟨_, _, rfl, ⟨(X ++ [(⟨(Tree.behind (Tree.bl X) its salt), A', c'⟩ : Inbox.BA)]), (.slice ArV (X.length + 1) crV), (.slice ArU (X.length + 1) crU), ⟨Tree.bl_app _ _, hX.app (Tree.Wfs.one hwB)⟩, rfl, rfl⟩, ?_⟩; rw [Tree.bc_append, Tree.bc_one, Tree.hs_one, hc_append, hc_one, List.length_append]; have hfz0 := (H195.front (is := [It.row 69 4 (.slice A' its.length c') its.length (Inbox.ic its), (Tree.It.fz X)]) (.cons PP (.cons PP (.nil _)))); simp only [List.cons_append, List.nil_append] at hfz0; have hfz := Tree.St.freeze (x := (⟨(Tree.behind (Tree.bl X) its salt), A', c'⟩ : Inbox.BA)) hfz0; exact (hfz.only (is := [It.row 26 35 (.slice ArV (X.length + 1) crV) (X.length + 1) (Inbox.bc X ++ Inbox.BA.cells (⟨(Tree.behind (Tree.bl X) its salt), A', c'⟩ : Inbox.BA)), It.row 23 32 (.slice ArU (X.length + 1) crU) (X.length + 1) (hc (Tree.hashes (Tree.bl X)) ++ (Tree.hash (Tree.behind (Tree.bl X) its salt)).1.map u8), It.blk c 77 [(.slice ArV (X.length + 1) crV), (.slice ArU (X.length + 1) crU), i64 dp, i64 de], (Tree.It.fz (X ++ [(⟨(Tree.behind (Tree.bl X) its salt), A', c'⟩ : Inbox.BA)]))]) (.cons PP (.cons PP (.cons PP (.cons PP (.nil _)))))).sep
     ·skip
      refine plain (y_loadB rfl z_agg75 rfl MM q_ix_c4_1) rfl rfl rfl H170 ?_
      clear H170; intro a196 H196
      refine hfinA H196.sep ?_
      refine hgo 7 rfl (by kernel_rfl) ?_
      refine st_buildSlice rfl Tryd.underlying36 z_size26 z_zero26 rfl rfl rfl (lay_agg (agg_cells _) (Inbox.BA.cells_len (x := (⟨(Tree.behind (Tree.bl X) its salt), A', c'⟩ : Inbox.BA)) (Tree.hash_len _)) rfl) rfl rfl rfl H196 ?_
      clear H196; intro b197 a197 wx197 H197
      refine hfinA H197.sep ?_
      refine hgo 8 rfl (by kernel_rfl) ?_
      refine st_append rfl z_slice36 z_notint36 rfl rfl (fun _ => UU) (fun w hs => Src.slice ((rd_blkA MM) w hs) (Inbox.BA.cells_len (x := (⟨(Tree.behind (Tree.bl X) its salt), A', c'⟩ : Inbox.BA)) (Tree.hash_len _)) (Tree.ba_cell (⟨(Tree.behind (Tree.bl X) its salt), A', c'⟩ : Inbox.BA))) (by unfold maxLen at *; omega) (by omega) rfl rfl rfl H197 ?_
      clear H197; intro v198 a198 wx198 hnil198 H198
      obtain ⟨ArV, crV, hvrV, hRrV, hmrV⟩ := row_shape (v := v198) H198.sep MM
      subst hvrV
      refine hfinA H198.sep ?_
      refine hgo 15 rfl (by kernel_rfl) ?_
      refine st_append rfl z_slice75 z_notint75 rfl rfl (fun _ => UU) (fun w hs => Src.slice ((rd_blkA MM) w hs) (by rw [List.length_map]; exact Tree.hash_len _) (by intro q hq; obtain ⟨y, _, rfl⟩ := List.mem_map.1 hq; rfl)) (by unfold maxLen at *; omega) (by omega) rfl rfl rfl H198 ?_
      clear H198; intro v199 a199 wx199 hnil199 H199
      obtain ⟨ArU, crU, hvrU, hRrU, hmrU⟩ := row_shape (v := v199) H199.sep MM
      subst hvrU
      refine hfinA H199.sep ?_
      refine htake 16 rfl (by kernel_rfl) (y_nilCheck rfl rfl) rfl rfl rfl (fun _ h => h.subA) H199 ?_
      clear H199; intro a200 H200
      refine htake 17 rfl (by kernel_rfl) (y_fieldB rfl z_field77_0 rfl (by first | (simp only [Nat.zero_add, Nat.add_zero, Nat.reduceAdd]; rfl) | rfl)) rfl rfl rfl (fun _ h => h.subA) H200 ?_
      clear H200; intro a201 H201
      refine hgo 18 rfl (by kernel_rfl) ?_
      refine st_store1N rfl z_size36 rfl rfl rfl UU q_len_c4 q_set_c4_0 (by decide) rfl rfl H201 ?_
      clear H201; intro wx202 H202
      refine hfinA H202.sep ?_
      refine htake 19 rfl (by kernel_rfl) (y_nilCheck rfl rfl) rfl rfl rfl (fun _ h => h.subA) H202 ?_
      clear H202; intro a203 H203
      refine htake 20 rfl (by kernel_rfl) (y_fieldB rfl z_field77_1 rfl (by first | (simp only [Nat.zero_add, Nat.add_zero, Nat.reduceAdd]; rfl) | rfl)) rfl rfl rfl (fun _ h => h.subA) H203 ?_
      clear H203; intro a204 H204
      refine hgo 21 rfl (by kernel_rfl) ?_
      refine st_store1N rfl z_size75 rfl rfl rfl UU q_len_c4 q_set_c4_1 (by decide) rfl rfl H204 ?_
      clear H204; intro wx205 H205
      refine hfinA H205.sep ?_
      refine hdone (by kernel_rfl) ?_
      refine then_n ?_
      refine wp_seq ?_
      refine reg ?_
      refine plain (y_loadAB rfl z_agg23 z_size23 rfl MM (q_ld_b32_0_32 (by first | assumption | exact Tree.hash_len _)) (q_len_b32 (by first | assumption | exact Tree.hash_len _))) rfl rfl rfl H205 ?_
      clear H205; intro a206 H206
      refine st_storeN rfl z_size23 rfl rfl (agg_cells _) UU q_one_b32 (q_len_b32 (by first | assumption | exact Tree.hash_len _)) (q_len_b32 (by first | assumption | exact Tree.hash_len _)) (q_spl_b32_0_b32 (by first | assumption | exact Tree.hash_len _) (by first | assumption | exact Tree.hash_len _)) (by decide) rfl rfl H206 ?_
      clear H206; intro wx207 H207
      refine plain (y_assign rfl rfl) rfl rfl rfl H207 ?_
      clear H207; intro a208 H208
      refine fin ?_
      refine then_n ?_
      refine wp_ret ?_
      -- return 14
      refine retct rfl H208 rfl z_agg23 z_size23 MM (q_len_b32 (by first | assumption | exact Tree.hash_len _)) rfl ?_
      have hz0 := Tree.mine_good hf2 hw2; rw [hz0]; refine ⟨_, _, rfl, ⟨(X ++ [(⟨(Tree.behind (Tree.bl X) its salt), A', c'⟩ : Inbox.BA)]), (.slice ArV (X.length + 1) crV), (.slice ArU (X.length + 1) crU), ⟨Tree.bl_app _ _, hX.app (Tree.Wfs.one hwB)⟩, rfl, rfl⟩, ?_⟩; rw [Tree.bc_append, Tree.bc_one, Tree.hs_one, hc_append, hc_one, List.length_append]; have hfz0 := (H208.front (is := [It.row 69 4 (.slice A' its.length c') its.length (Inbox.ic its), (Tree.It.fz X)]) (.cons PP (.cons PP (.nil _)))); simp only [List.cons_append, List.nil_append] at hfz0; have hfz := Tree.St.freeze (x := (⟨(Tree.behind (Tree.bl X) its salt), A', c'⟩ : Inbox.BA)) hfz0; exact (hfz.only (is := [It.row 26 35 (.slice ArV (X.length + 1) crV) (X.length + 1) (Inbox.bc X ++ Inbox.BA.cells (⟨(Tree.behind (Tree.bl X) its salt), A', c'⟩ : Inbox.BA)), It.row 23 32 (.slice ArU (X.length + 1) crU) (X.length + 1) (hc (Tree.hashes (Tree.bl X)) ++ (Tree.hash (Tree.behind (Tree.bl X) its salt)).1.map u8), It.blk c 77 [(.slice ArV (X.length + 1) crV), (.slice ArU (X.length + 1) crU), i64 dp, i64 de], (Tree.It.fz (X ++ [(⟨(Tree.behind (Tree.bl X) its salt), A', c'⟩ : Inbox.BA)]))]) (.cons PP (.cons PP (.cons PP (.cons PP (.nil _)))))).sep
   ·skip
    refine st_buildSlice rfl Tryd.underlying36 z_size26 z_zero26 rfl rfl rfl (lay_agg (agg_cells _) (Inbox.BA.cells_len (x := (⟨(Tree.behind (Tree.bl X) its salt), A', c'⟩ : Inbox.BA)) (Tree.hash_len _)) rfl) rfl rfl rfl H53 ?_
    clear H53; intro b209 a209 wx209 H209
    refine hfinA H209.sep ?_
    refine hgo3 5 12 14 rfl rfl rfl (by kernel_rfl) ?_ ?_ ?_
    ·skip
     refine plain (y_loadB rfl z_agg36 rfl MM q_ix_c4_0) rfl rfl rfl H209 ?_
     clear H209; intro a210 H210
     refine hfinA H210.sep ?_
     refine hgo3 8 12 14 rfl rfl rfl (by kernel_rfl) ?_ ?_ ?_
     ·skip
      refine st_append rfl z_slice36 z_notint36 rfl rfl (fun _ => UU) (fun w hs => Src.slice ((rd_blkA MM) w hs) (Inbox.BA.cells_len (x := (⟨(Tree.behind (Tree.bl X) its salt), A', c'⟩ : Inbox.BA)) (Tree.hash_len _)) (Tree.ba_cell (⟨(Tree.behind (Tree.bl X) its salt), A', c'⟩ : Inbox.BA))) (by unfold maxLen at *; omega) (by omega) rfl rfl rfl H210 ?_
      clear H210; intro v211 a211 wx211 hnil211 H211
      obtain ⟨ArV, crV, hvrV, hRrV, hmrV⟩ := row_shape (v := v211) H211.sep MM
      subst hvrV
      refine hfinA H211.sep ?_
      refine hgo2 12 14 rfl rfl (by kernel_rfl) ?_ ?_
      ·skip
       refine plain (y_loadB rfl z_agg75 rfl MM q_ix_c4_1) rfl rfl rfl H211 ?_
       clear H211; intro a212 H212
       refine hfinA H212.sep ?_
       refine hgo 14 rfl (by kernel_rfl) ?_
       refine st_buildSlice rfl Tryd.underlying75 z_size23 z_zero23 rfl rfl rfl (lay_agg (agg_cells _) (by rw [List.length_map]; exact Tree.hash_len _) rfl) rfl rfl rfl H212 ?_
       clear H212; intro b213 a213 wx213 H213
       refine hfinA H213.sep ?_
       refine hgo 15 rfl (by kernel_rfl) ?_
       refine st_append rfl z_slice75 z_notint75 rfl rfl (fun _ => UU) (fun w hs => Src.slice ((rd_blkA MM) w hs) (by rw [List.length_map]; exact Tree.hash_len _) (by intro q hq; obtain ⟨y, _, rfl⟩ := List.mem_map.1 hq; rfl)) (by unfold maxLen at *; omega) (by omega) rfl rfl rfl H213 ?_
       clear H213; intro v214 a214 wx214 hnil214 H214
       obtain ⟨ArU, crU, hvrU, hRrU, hmrU⟩ := row_shape (v := v214) H214.sep MM
       subst hvrU
       refine hfinA H214.sep ?_
       refine htake 16 rfl (by kernel_rfl) (y_nilCheck rfl rfl) rfl rfl rfl (fun _ h => h.subA) H214 ?_
       clear H214; intro a215 H215
       refine htake 17 rfl (by kernel_rfl) (y_fieldB rfl z_field77_0 rfl (by first | (simp only [Nat.zero_add, Nat.add_zero, Nat.reduceAdd]; rfl) | rfl)) rfl rfl rfl (fun _ h => h.subA) H215 ?_
       clear H215; intro a216 H216
       refine hgo 18 rfl (by kernel_rfl) ?_
       refine st_store1N rfl z_size36 rfl rfl rfl UU q_len_c4 q_set_c4_0 (by decide) rfl rfl H216 ?_
       clear H216; intro wx217 H217
       refine hfinA H217.sep ?_
       refine htake 19 rfl (by kernel_rfl) (y_nilCheck rfl rfl) rfl rfl rfl (fun _ h => h.subA) H217 ?_
       clear H217; intro a218 H218
       refine htake 20 rfl (by kernel_rfl) (y_fieldB rfl z_field77_1 rfl (by first | (simp only [Nat.zero_add, Nat.add_zero, Nat.reduceAdd]; rfl) | rfl)) rfl rfl rfl (fun _ h => h.subA) H218 ?_
       clear H218; intro a219 H219
       refine hgo 21 rfl (by kernel_rfl) ?_
       refine st_store1N rfl z_size75 rfl rfl rfl UU q_len_c4 q_set_c4_1 (by decide) rfl rfl H219 ?_
       clear H219; intro wx220 H220
       refine hfinA H220.sep ?_
       refine hdone (by kernel_rfl) ?_
       refine then_n ?_
       refine wp_seq ?_
       refine reg ?_
       refine plain (y_loadAB rfl z_agg23 z_size23 rfl MM (q_ld_b32_0_32 (by first | assumption | exact Tree.hash_len _)) (q_len_b32 (by first | assumption | exact Tree.hash_len _))) rfl rfl rfl H220 ?_
       clear H220; intro a221 H221
       refine st_storeN rfl z_size23 rfl rfl (agg_cells _) UU q_one_b32 (q_len_b32 (by first | assumption | exact Tree.hash_len _)) (q_len_b32 (by first | assumption | exact Tree.hash_len _)) (q_spl_b32_0_b32 (by first | assumption | exact Tree.hash_len _) (by first | assumption | exact Tree.hash_len _)) (by decide) rfl rfl H221 ?_
       clear H221; intro wx222 H222
       refine plain (y_assign rfl rfl) rfl rfl rfl H222 ?_
       clear H222; intro a223 H223
       refine fin ?_
       refine then_n ?_
       refine wp_ret ?_
       -- return 15
       refine retct rfl H223 rfl z_agg23 z_size23 MM (q_len_b32 (by first | assumption | exact Tree.hash_len _)) rfl ?_
       have hz0 := Tree.mine_good hf2 hw2; rw [hz0]; refine ⟨_, _, rfl, ⟨(X ++ [(⟨(Tree.behind (Tree.bl X) its salt), A', c'⟩ : Inbox.BA)]), (.slice ArV (X.length + 1) crV), (.slice ArU (X.length + 1) crU), ⟨Tree.bl_app _ _, hX.app (Tree.Wfs.one hwB)⟩, rfl, rfl⟩, ?_⟩; rw [Tree.bc_append, Tree.bc_one, Tree.hs_one, hc_append, hc_one, List.length_append]; have hfz0 := (H223.front (is := [It.row 69 4 (.slice A' its.length c') its.length (Inbox.ic its), (Tree.It.fz X)]) (.cons PP (.cons PP (.nil _)))); simp only [List.cons_append, List.nil_append] at hfz0; have hfz := Tree.St.freeze (x := (⟨(Tree.behind (Tree.bl X) its salt), A', c'⟩ : Inbox.BA)) hfz0; exact (hfz.only (is := [It.row 26 35 (.slice ArV (X.length + 1) crV) (X.length + 1) (Inbox.bc X ++ Inbox.BA.cells (⟨(Tree.behind (Tree.bl X) its salt), A', c'⟩ : Inbox.BA)), It.row 23 32 (.slice ArU (X.length + 1) crU) (X.length + 1) (hc (Tree.hashes (Tree.bl X)) ++ (Tree.hash (Tree.behind (Tree.bl X) its salt)).1.map u8), It.blk c 77 [(.slice ArV (X.length + 1) crV), (.slice ArU (X.length + 1) crU), i64 dp, i64 de], (Tree.It.fz (X ++ [(⟨(Tree.behind (Tree.bl X) its salt), A', c'⟩ : Inbox.BA)]))]) (.cons PP (.cons PP (.cons PP (.cons PP (.nil _)))))).sep
      ·skip
       refine st_buildSlice rfl Tryd.underlying75 z_size23 z_zero23 rfl rfl rfl (lay_agg (agg_cells _) (by rw [List.length_map]; exact Tree.hash_len _) rfl) rfl rfl rfl H211 ?_
       clear H211; intro b224 a224 wx224 H224
       refine hfinA H224.sep ?_
       refine hgo 12 rfl (by kernel_rfl) ?_
       refine plain (y_loadB rfl z_agg75 rfl MM q_ix_c4_1) rfl rfl rfl H224 ?_
       clear H224; intro a225 H225
       refine hfinA H225.sep ?_
       refine hgo 15 rfl (by kernel_rfl) ?_
       refine st_append rfl z_slice75 z_notint75 rfl rfl (fun _ => UU) (fun w hs => Src.slice ((rd_blkA MM) w hs) (by rw [List.length_map]; exact Tree.hash_len _) (by intro q hq; obtain ⟨y, _, rfl⟩ := List.mem_map.1 hq; rfl)) (by unfold maxLen at *; omega) (by omega) rfl rfl rfl H225 ?_
       clear H225; intro v226 a226 wx226 hnil226 H226
       obtain ⟨ArU, crU, hvrU, hRrU, hmrU⟩ := row_shape (v := v226) H226.sep MM
       subst hvrU
       refine hfinA H226.sep ?_
       refine htake 16 rfl (by kernel_rfl) (y_nilCheck rfl rfl) rfl rfl rfl (fun _ h => h.subA) H226 ?_
       clear H226; intro a227 H227
       refine htake 17 rfl (by kernel_rfl) (y_fieldB rfl z_field77_0 rfl (by first | (simp only [Nat.zero_add, Nat.add_zero, Nat.reduceAdd]; rfl) | rfl)) rfl rfl rfl (fun _ h => h.subA) H227 ?_
       clear H227; intro a228 H228
       refine hgo 18 rfl (by kernel_rfl) ?_
       refine st_store1N rfl z_size36 rfl rfl rfl UU q_len_c4 q_set_c4_0 (by decide) rfl rfl H228 ?_
       clear H228; intro wx229 H229
       refine hfinA H229.sep ?_
       refine htake 19 rfl (by kernel_rfl) (y_nilCheck rfl rfl) rfl rfl rfl (fun _ h => h.subA) H229 ?_
       clear H229; intro a230 H230
       refine htake 20 rfl (by kernel_rfl) (y_fieldB rfl z_field77_1 rfl (by first | (simp only [Nat.zero_add, Nat.add_zero, Nat.reduceAdd]; rfl) | rfl)) rfl rfl rfl (fun _ h => h.subA) H230 ?_
       clear H230; intro a231 H231
       refine hgo 21 rfl (by kernel_rfl) ?_
       refine st_store1N rfl z_size75 rfl rfl rfl UU q_len_c4 q_set_c4_1 (by decide) rfl rfl H231 ?_
       clear H231; intro wx232 H232
       refine hfinA H232.sep ?_
       refine hdone (by kernel_rfl) ?_
       refine then_n ?_
       refine wp_seq ?_
       refine reg ?_
       refine plain (y_loadAB rfl z_agg23 z_size23 rfl MM (q_ld_b32_0_32 (by first | assumption | exact Tree.hash_len _)) (q_len_b32 (by first | assumption | exact Tree.hash_len _))) rfl rfl rfl H232 ?_
       clear H232; intro a233 H233
       refine st_storeN rfl z_size23 rfl rfl (agg_cells _) UU q_one_b32 (q_len_b32 (by first | assumption | exact Tree.hash_len _)) (q_len_b32 (by first | assumption | exact Tree.hash_len _)) (q_spl_b32_0_b32 (by first | assumption | exact Tree.hash_len _) (by first | assumption | exact Tree.hash_len _)) (by decide) rfl rfl H233 ?_
       clear H233; intro wx234 H234
       refine plain (y_assign rfl rfl) rfl rfl rfl H234 ?_
       clear H234; intro a235 H235
       refine fin ?_
       refine then_n ?_
       refine wp_ret ?_
       -- return 16
       refine retct rfl H235 rfl z_agg23 z_size23 MM (q_len_b32 (by first | assumption | exact Tree.hash_len _)) rfl ?_
       have hz0 := Tree.mine_good hf2 hw2; rw [hz0]; refine ⟨_, _, rfl, ⟨(X ++ [(⟨(Tree.behind (Tree.bl X) its salt), A', c'⟩ : Inbox.BA)]), (.slice ArV (X.length + 1) crV), (.slice ArU (X.length + 1) crU), ⟨Tree.bl_app _ _, hX.app (Tree.Wfs.one hwB)⟩, rfl, rfl⟩, ?_⟩; rw [Tree.bc_append, Tree.bc_one, Tree.hs_one, hc_append, hc_one, List.length_append]; have hfz0 := (H235.front (is := [It.row 69 4 (.slice A' its.length c') its.length (Inbox.ic its), (Tree.It.fz X)]) (.cons PP (.cons PP (.nil _)))); simp only [List.cons_append, List.nil_append] at hfz0; have hfz := Tree.St.freeze (x := (⟨(Tree.behind (Tree.bl X) its salt), A', c'⟩ : Inbox.BA)) hfz0; exact (hfz.only (is := [It.row 26 35 (.slice ArV (X.length + 1) crV) (X.length + 1) (Inbox.bc X ++ Inbox.BA.cells (⟨(Tree.behind (Tree.bl X) its salt), A', c'⟩ : Inbox.BA)), It.row 23 32 (.slice ArU (X.length + 1) crU) (X.length + 1) (hc (Tree.hashes (Tree.bl X)) ++ (Tree.hash (Tree.behind (Tree.bl X) its salt)).1.map u8), It.blk c 77 [(.slice ArV (X.length + 1) crV), (.slice ArU (X.length + 1) crU), i64 dp, i64 de], (Tree.It.fz (X ++ [(⟨(Tree.behind (Tree.bl X) its salt), A', c'⟩ : Inbox.BA)]))]) (.cons PP (.cons PP (.cons PP (.cons PP (.nil _)))))).sep
     ·skip
      refine plain (y_loadB rfl z_agg75 rfl MM q_ix_c4_1) rfl rfl rfl H210 ?_
      clear H210; intro a236 H236
      refine hfinA H236.sep ?_
      refine hgo2 8 14 rfl rfl (by kernel_rfl) ?_ ?_
      ·skip
       refine st_append rfl z_slice36 z_notint36 rfl rfl (fun _ => UU) (fun w hs => Src.slice ((rd_blkA MM) w hs) (Inbox.BA.cells_len (x := (⟨(Tree.behind (Tree.bl X) its salt), A', c'⟩ : Inbox.BA)) (Tree.hash_len _)) (Tree.ba_cell (⟨(Tree.behind (Tree.bl X) its salt), A', c'⟩ : Inbox.BA))) (by unfold maxLen at *; omega) (by omega) rfl rfl rfl H236 ?_
       clear H236; intro v237 a237 wx237 hnil237 H237
       obtain ⟨ArV, crV, hvrV, hRrV, hmrV⟩ := row_shape (v := v237) H237.sep MM
       subst hvrV
       refine hfinA H237.sep ?_
       refine hgo 14 rfl (by kernel_rfl) ?_
       refine st_buildSlice rfl Tryd.underlying75 z_size23 z_zero23 rfl rfl rfl (lay_agg (agg_cells _) (by rw [List.length_map]; exact Tree.hash_len _) rfl) rfl rfl rfl H237 ?_
       clear H237; intro b238 a238 wx238 H238
       refine hfinA H238.sep ?_
       refine hgo 15 rfl (by kernel_rfl) ?_
       refine st_append rfl z_slice75 z_notint75 rfl rfl (fun _ => UU) (fun w hs => Src.slice ((rd_blkA MM) w hs) (by rw [List.length_map]; exact Tree.hash_len _) (by intro q hq; obtain ⟨y, _, rfl⟩ := List.mem_map.1 hq; rfl)) (by unfold maxLen at *; omega) (by omega) rfl rfl rfl H238 ?_
       clear H238; intro v239 a239 wx239 hnil239 H239
       obtain ⟨ArU, crU, hvrU, hRrU, hmrU⟩ := row_shape (v := v239) H239.sep MM
       subst hvrU
       refine hfinA H239.sep ?_
       refine htake 16 rfl (by kernel_rfl) (y_nilCheck rfl rfl) rfl rfl rfl (fun _ h => h.subA) H239 ?_
       clear H239; intro a240 H240
       refine htake 17 rfl (by kernel_rfl) (y_fieldB rfl z_field77_0 rfl (by first | (simp only [Nat.zero_add, Nat.add_zero, Nat.reduceAdd]; rfl) | rfl)) rfl rfl rfl (fun _ h => h.subA) H240 ?_
       clear H240; intro a241 H241
       refine hgo 18 rfl (by kernel_rfl) ?_
       refine st_store1N rfl z_size36 rfl rfl rfl UU q_len_c4 q_set_c4_0 (by decide) rfl rfl H241 ?_
       clear H241; intro wx242 H242
       refine hfinA H242.sep ?_
       refine htake 19 rfl (by kernel_rfl) (y_nilCheck rfl rfl) rfl rfl rfl (fun _ h => h.subA) H242 ?_
       clear H242; intro a243 H243
       refine htake 20 rfl (by kernel_rfl) (y_fieldB rfl z_field77_1 rfl (by first | (simp only [Nat.zero_add, Nat.add_zero, Nat.reduceAdd]; rfl) | rfl)) rfl rfl rfl (fun _ h => h.subA) H243 ?_
       clear H243; intro a244 H244
       refine hgo 21 rfl (by kernel_rfl) ?_
       refine st_store1N rfl z_size75 rfl rfl rfl UU q_len_c4 q_set_c4_1 (by decide) rfl rfl H244 ?_
       clear H244; intro wx245 H245
       refine hfinA H245.sep ?_
       refine hdone (by kernel_rfl) ?_
       refine then_n ?_
       refine wp_seq ?_
       refine reg ?_
       refine plain (y_loadAB rfl z_agg23 z_size23 rfl MM (q_ld_b32_0_32 (by first | assumption | exact Tree.hash_len _)) (q_len_b32 (by first | assumption | exact Tree.hash_len _))) rfl rfl rfl H245 ?_
       clear H245; intro a246 H246
       refine st_storeN rfl z_size23 rfl rfl (agg_cells _) UU q_one_b32 (q_len_b32 (by first | assumption | exact Tree.hash_len _)) (q_len_b32 (by first | assumption | exact Tree.hash_len _)) (q_spl_b32_0_b32 (by first | assumption | exact Tree.hash_len _) (by first | assumption | exact Tree.hash_len _)) (by decide) rfl rfl H246 ?_
       clear H246; intro wx247 H247
       refine plain (y_assign rfl rfl) rfl rfl rfl H247 ?_
       clear H247; intro a248 H248
       refine fin ?_
       refine then_n ?_
       refine wp_ret ?_
       -- return 17
       refine retct rfl H248 rfl z_agg23 z_size23 MM (q_len_b32 (by first | assumption | exact Tree.hash_len _)) rfl ?_
       have hz0 := Tree.mine_good hf2 hw2; rw [hz0]; refine ⟨_, _, rfl, ⟨(X ++ [(⟨(Tree.behind (Tree.bl X) its salt), A', c'⟩ : Inbox.BA)]), (.slice ArV (X.length + 1) crV), (.slice ArU (X.length + 1) crU), ⟨Tree.bl_app _ _, hX.app (Tree.Wfs.one hwB)⟩, rfl, rfl⟩, ?_⟩; rw [Tree.bc_append, Tree.bc_one, Tree.hs_one, hc_append, hc_one, List.length_append]; have hfz0 := (H248.front (is := [It.row 69 4 (.slice A' its.length c') its.length (Inbox.ic its), (Tree.It.fz X)]) (.cons PP (.cons PP (.nil _)))); simp only [List.cons_append, List.nil_append] at hfz0; have hfz := Tree.St.freeze (x := (⟨(Tree.behind (Tree.bl X) its salt), A', c'⟩ : Inbox.BA)) hfz0; exact (hfz.only (is := [It.row 26 35 (.slice ArV (X.length + 1) crV) (X.length + 1) (Inbox.bc X ++ Inbox.BA.cells (⟨(Tree.behind (Tree.bl X) its salt), A', c'⟩ : Inbox.BA)), It.row 23 32 (.slice ArU (X.length + 1) crU) (X.length + 1) (hc (Tree.hashes (Tree.bl X)) ++ (Tree.hash (Tree.behind (Tree.bl X) its salt)).1.map u8), It.blk c 77 [(.slice ArV (X.length + 1) crV), (.slice ArU (X.length + 1) crU), i64 dp, i64 de], (Tree.It.fz (X ++ [(⟨(Tree.behind (Tree.bl X) its salt), A', c'⟩ : Inbox.BA)]))]) (.cons PP (.cons PP (.cons PP (.cons PP (.nil _)))))).sep
      ·skip
       refine st_buildSlice rfl Tryd.underlying75 z_size23 z_zero23 rfl rfl rfl (lay_agg (agg_cells _) (by rw [List.length_map]; exact Tree.hash_len _) rfl) rfl rfl rfl H236 ?_
       clear H236; intro b249 a249 wx249 H249
       refine hfinA H249.sep ?_
       refine hgo 8 rfl (by kernel_rfl) ?_
       refine st_append rfl z_slice36 z_notint36 rfl rfl (fun _ => UU) (fun w hs => Src.slice ((rd_blkA MM) w hs) (Inbox.BA.cells_len (x := (⟨(Tree.behind (Tree.bl X) its salt), A', c'⟩ : Inbox.BA)) (Tree.hash_len _)) (Tree.ba_cell (⟨(Tree.behind (Tree.bl X) its salt), A', c'⟩ : Inbox.BA))) (by unfold maxLen at *; omega) (by omega) rfl rfl rfl H249 ?_
       clear H249; intro v250 a250 wx250 hnil250 H250
       obtain ⟨ArV, crV, hvrV, hRrV, hmrV⟩ := row_shape (v := v250) H250.sep MM
       subst hvrV
       refine hfinA H250.sep ?_
       refine hgo 15 rfl (by kernel_rfl) ?_
       refine st_append rfl z_slice75 z_notint75 rfl rfl (fun _ => UU) (fun w hs => Src.slice ((rd_blkA MM) w hs) (by rw [List.length_map]; exact Tree.hash_len _) (by intro q hq; obtain ⟨y, _, rfl⟩ := List.mem_map.1 hq; rfl)) (by unfold maxLen at *; omega) (by omega) rfl rfl rfl H250 ?_
       clear H250; intro v251 a251 wx251 hnil251 H251
       obtain ⟨ArU, crU, hvrU, hRrU, hmrU⟩ := row_shape (v := v251) H251.sep MM
       subst hvrU
       refine hfinA H251.sep ?_
       refine htake 16 rfl (by kernel_rfl) (y_nilCheck rfl rfl) rfl rfl rfl (fun _ h => h.subA) H251 ?_
       clear H251; intro a252 H252
       refine htake 17 rfl (by kernel_rfl) (y_fieldB rfl z_field77_0 rfl (by first | (simp only [Nat.zero_add, Nat.add_zero, Nat.reduceAdd]; rfl) | rfl)) rfl rfl rfl (fun _ h => h.subA) H252 ?_
       clear H252; intro a253 H253
       refine hgo 18 rfl (by kernel_rfl) ?_
       refine st_store1N rfl z_size36 rfl rfl rfl UU q_len_c4 q_set_c4_0 (by decide) rfl rfl H253 ?_
       clear H253; intro wx254 H254
       refine hfinA H254.sep ?_
       refine htake 19 rfl (by kernel_rfl) (y_nilCheck rfl rfl) rfl rfl rfl (fun _ h => h.subA) H254 ?_
       clear H254; intro a255 H255
       refine htake 20 rfl (by kernel_rfl) (y_fieldB rfl z_field77_1 rfl (by first | (simp only [Nat.zero_add, Nat.add_zero, Nat.reduceAdd]; rfl) | rfl)) rfl rfl rfl (fun _ h => h.subA) H255 ?_
       clear H255; intro a256 H256
       refine hgo 21 rfl (by kernel_rfl) ?_
       refine st_store1N rfl z_size75 rfl rfl rfl UU q_len_c4 q_set_c4_1 (by decide) rfl rfl H256 ?_
       clear H256; intro wx257 H257
       refine hfinA H257.sep ?_
       refine hdone (by kernel_rfl) ?_
       refine then_n ?_
       refine wp_seq ?_
       refine reg ?_
       refine plain (y_loadAB rfl z_agg23 z_size23 rfl MM (q_ld_b32_0_32 (by first | assumption | exact Tree.hash_len _)) (q_len_b32 (by first | assumption | exact Tree.hash_len _))) rfl rfl rfl H257 ?_
       clear H257; intro a258 H258
       refine st_storeN rfl z_size23 rfl rfl (agg_cells _) UU q_one_b32 (q_len_b32 (by first | assumption | exact Tree.hash_len _)) (q_len_b32 (by first | assumption | exact Tree.hash_len _)) (q_spl_b32_0_b32 (by first | assumption | exact Tree.hash_len _) (by first | assumption | exact Tree.hash_len _)) (by decide) rfl rfl H258 ?_
       clear H258; intro wx259 H259
       refine plain (y_assign rfl rfl) rfl rfl rfl H259 ?_
       clear H259; intro a260 H260
       refine fin ?_
       refine then_n ?_
       refine wp_ret ?_
       -- return 18
       refine retct rfl H260 rfl z_agg23 z_size23 MM (q_len_b32 (by first | assumption | exact Tree.hash_len _)) rfl ?_
       have hz0 := Tree.mine_good hf2 hw2; rw [hz0]; refine ⟨_, _, rfl, ⟨(X ++ [(⟨(Tree.behind (Tree.bl X) its salt), A', c'⟩ : Inbox.BA)]), (.slice ArV (X.length + 1) crV), (.slice ArU (X.length + 1) crU), ⟨Tree.bl_app _ _, hX.app (Tree.Wfs.one hwB)⟩, rfl, rfl⟩, ?_⟩; rw [Tree.bc_append, Tree.bc_one, Tree.hs_one, hc_append, hc_one, List.length_append]; have hfz0 := (H260.front (is := [It.row 69 4 (.slice A' its.length c') its.length (Inbox.ic its), (Tree.It.fz X)]) (.cons PP (.cons PP (.nil _)))); simp only [List.cons_append, List.nil_append] at hfz0; have hfz := Tree.St.freeze (x := (⟨(Tree.behind (Tree.bl X) its salt), A', c'⟩ : Inbox.BA)) hfz0; exact (hfz.only (is := [It.row 26 35 (.slice ArV (X.length + 1) crV) (X.length + 1) (Inbox.bc X ++ Inbox.BA.cells (⟨(Tree.behind (Tree.bl X) its salt), A', c'⟩ : Inbox.BA)), It.row 23 32 (.slice ArU (X.length + 1) crU) (X.length + 1) (hc (Tree.hashes (Tree.bl X)) ++ (Tree.hash (Tree.behind (Tree.bl X) its salt)).1.map u8), It.blk c 77 [(.slice ArV (X.length + 1) crV), (.slice ArU (X.length + 1) crU), i64 dp, i64 de], (Tree.It.fz (X ++ [(⟨(Tree.behind (Tree.bl X) its salt), A', c'⟩ : Inbox.BA)]))]) (.cons PP (.cons PP (.cons PP (.cons PP (.nil _)))))).sep
     ·skip
      refine st_buildSlice rfl Tryd.underlying75 z_size23 z_zero23 rfl rfl rfl (lay_agg (agg_cells _) (by rw [List.length_map]; exact Tree.hash_len _) rfl) rfl rfl rfl H210 ?_
      clear H210; intro b261 a261 wx261 H261
      refine hfinA H261.sep ?_
      refine hgo2 8 12 rfl rfl (by kernel_rfl) ?_ ?_
      ·skip
       refine st_append rfl z_slice36 z_notint36 rfl rfl (fun _ => UU) (fun w hs => Src.slice ((rd_blkA MM) w hs) (Inbox.BA.cells_len (x := (⟨(Tree.behind (Tree.bl X) its salt), A', c'⟩ : Inbox.BA)) (Tree.hash_len _)) (Tree.ba_cell (⟨(Tree.behind (Tree.bl X) its salt), A', c'⟩ : Inbox.BA))) (by unfold maxLen at *; omega) (by omega) rfl rfl rfl H261 ?_
       clear H261; intro v262 a262 wx262 hnil262 H262
       obtain ⟨ArV, crV, hvrV, hRrV, hmrV⟩ := row_shape (v := v262) H262.sep MM
       subst hvrV
       refine hfinA H262.sep ?_
       refine hgo 12 rfl (by kernel_rfl) ?_
       refine plain (y_loadB rfl z_agg75 rfl MM q_ix_c4_1) rfl rfl rfl H262 ?_
       clear H262; intro a263 H263
       refine hfinA H263.sep ?_
       refine hgo 15 rfl (by kernel_rfl) ?_
       refine st_append rfl z_slice75 z_notint75 rfl rfl (fun _ => UU) (fun w hs => Src.slice ((rd_blkA MM) w hs) (by rw [List.length_map]; exact Tree.hash_len _) (by intro q hq; obtain ⟨y, _, rfl⟩ := List.mem_map.1 hq; rfl)) (by unfold maxLen at *; omega) (by omega) rfl rfl rfl H263 ?_
       clear H263; intro v264 a264 wx264 hnil264 H264
       obtain ⟨ArU, crU, hvrU, hRrU, hmrU⟩ := row_shape (v := v264) H264.sep MM
       subst hvrU
       refine hfinA H264.sep ?_
       refine htake 16 rfl (by kernel_rfl) (y_nilCheck rfl rfl) rfl rfl rfl (fun _ h => h.subA) H264 ?_
       clear H264; intro a265 H265
       refine htake 17 rfl (by kernel_rfl) (y_fieldB rfl z_field77_0 rfl (by first | (simp only [Nat.zero_add, Nat.add_zero, Nat.reduceAdd]; rfl) | rfl)) rfl rfl rfl (fun _ h => h.subA) H265 ?_
       clear H265; intro a266 H266
       refine hgo 18 rfl (by kernel_rfl) ?_
       refine st_store1N rfl z_size36 rfl rfl rfl UU q_len_c4 q_set_c4_0 (by decide) rfl rfl H266 ?_
       clear H266; intro wx267 H267
       refine hfinA H267.sep ?_
       refine htake 19 rfl (by kernel_rfl) (y_nilCheck rfl rfl) rfl rfl rfl (fun _ h => h.subA) H267 ?_
       clear H267; intro a268 H268
       refine htake 20 rfl (by kernel_rfl) (y_fieldB rfl z_field77_1 rfl (by first | (simp only [Nat.zero_add, Nat.add_zero, Nat.reduceAdd]; rfl) | rfl)) rfl rfl rfl (fun _ h => h.subA) H268 ?_
       clear H268; intro a269 H269
       refine hgo 21 rfl (by kernel_rfl) ?_
       refine st_store1N rfl z_size75 rfl rfl rfl UU q_len_c4 q_set_c4_1 (by decide) rfl rfl H269 ?_
       clear H269; intro wx270 H270
       refine hfinA H270.sep ?_
       refine hdone (by kernel_rfl) ?_
       refine then_n ?_
       refine wp_seq ?_
       refine reg ?_
       refine plain (y_loadAB rfl z_agg23 z_size23 rfl MM (q_ld_b32_0_32 (by first | assumption | exact Tree.hash_len _)) (q_len_b32 (by first | assumption | exact Tree.hash_len _))) rfl rfl rfl H270 ?_
       clear H270; intro a271 H271
       refine st_storeN rfl z_size23 rfl rfl (agg_cells _) UU q_one_b32 (q_len_b32 (by first | assumption | exact Tree.hash_len _)) (q_len_b32 (by first | assumption | exact Tree.hash_len _)) (q_spl_b32_0_b32 (by first | assumption | exact Tree.hash_len _) (by first | assumption | exact Tree.hash_len _)) (by decide) rfl rfl H271 ?_
       clear H271; intro wx272 H272
       refine plain (y_assign rfl rfl) rfl rfl rfl H272 ?_
       clear H272; intro a273 H273
       refine fin ?_
       refine then_n ?_
       refine wp_ret ?_
       -- return 19
       refine retct rfl H273 rfl z_agg23 z_size23 MM (q_len_b32 (by first | assumption | exact Tree.hash_len _)) rfl ?_
       have hz0 := Tree.mine_good hf2 hw2; rw [hz0]; refine ⟨_, _, rfl, ⟨(X ++ [(⟨(Tree.behind (Tree.bl X) its salt), A', c'⟩ : Inbox.BA)]), (.slice ArV (X.length + 1) crV), (.slice ArU (X.length + 1) crU), ⟨Tree.bl_app _ _, hX.app (Tree.Wfs.one hwB)⟩, rfl, rfl⟩, ?_⟩; rw [Tree.bc_append, Tree.bc_one, Tree.hs_one, hc_append, hc_one, List.length_append]; have hfz0 := (H273.front (is := [It.row 69 4 (.slice A' its.length c') its.length (Inbox.ic its), (Tree.It.fz X)]) (.cons PP (.cons PP (.nil _)))); simp only [List.cons_append, List.nil_append] at hfz0; have hfz := Tree.St.freeze (x := (⟨(Tree.behind (Tree.bl X) its salt), A', c'⟩ : Inbox.BA)) hfz0; exact (hfz.only (is := [It.row 26 35 (.slice ArV (X.length + 1) crV) (X.length + 1) (Inbox.bc X ++ Inbox.BA.cells (⟨(Tree.behind (Tree.bl X) its salt), A', c'⟩ : Inbox.BA)), It.row 23 32 (.slice ArU (X.length + 1) crU) (X.length + 1) (hc (Tree.hashes (Tree.bl X)) ++ (Tree.hash (Tree.behind (Tree.bl X) its salt)).1.map u8), It.blk c 77 [(.slice ArV (X.length + 1) crV), (.slice ArU (X.length + 1) crU), i64 dp, i64 de], (Tree.It.fz (X ++ [(⟨(Tree.behind (Tree.bl X) its salt), A', c'⟩ : Inbox.BA)]))]) (.cons PP (.cons PP (.cons PP (.cons PP (.nil _)))))).sep
      ·skip
       refine plain (y_loadB rfl z_agg75 rfl MM q_ix_c4_1) rfl rfl rfl H261 ?_
       clear H261; intro a274 H274
       refine hfinA H274.sep ?_
       refine hgo 8 rfl (by kernel_rfl) ?_
       refine st_append rfl z_slice36 z_notint36 rfl rfl (fun _ => UU) (fun w hs => Src.slice ((rd_blkA MM) w hs) (Inbox.BA.cells_len (x := (⟨(Tree.behind (Tree.bl X) its salt), A', c'⟩ : Inbox.BA)) (Tree.hash_len _)) (Tree.ba_cell (⟨(Tree.behind (Tree.bl X) its salt), A', c'⟩ : Inbox.BA))) (by unfold maxLen at *; omega) (by omega) rfl rfl rfl H274 ?_
       clear H274; intro v275 a275 wx275 hnil275 H275
       obtain ⟨ArV, crV, hvrV, hRrV, hmrV⟩ := row_shape (v := v275) H275.sep MM
       subst hvrV
       refine hfinA H275.sep ?_
       refine hgo 15 rfl (by kernel_rfl) ?_
       refine st_append rfl z_slice75 z_notint75 rfl rfl (fun _ => UU) (fun w hs => Src.slice ((rd_blkA MM) w hs) (by rw [List.length_map]; exact Tree.hash_len _) (by intro q hq; obtain ⟨y, _, rfl⟩ := List.mem_map.1 hq; rfl)) (by unfold maxLen at *; omega) (by omega) rfl rfl rfl H275 ?_
       clear H275; intro v276 a276 wx276 hnil276 H276
       obtain ⟨ArU, crU, hvrU, hRrU, hmrU⟩ := row_shape (v := v276) H276.sep MM
       subst hvrU
       refine hfinA H276.sep ?_
       refine htake 16 rfl (by kernel_rfl) (y_nilCheck rfl rfl) rfl rfl rfl (fun _ h => h.subA) H276 ?_
       clear H276; intro a277 H277
       refine htake 17 rfl (by kernel_rfl) (y_fieldB rfl z_field77_0 rfl (by first | (simp only [Nat.zero_add, Nat.add_zero, Nat.reduceAdd]; rfl) | rfl)) rfl rfl rfl (fun _ h => h.subA) H277 ?_
       clear H277; intro a278 H278
       refine hgo 18 rfl (by kernel_rfl) ?_
       refine st_store1N rfl z_size36 rfl rfl rfl UU q_len_c4 q_set_c4_0 (by decide) rfl rfl H278 ?_
       clear H278; intro wx279 H279
       refine hfinA H279.sep ?_
       refine htake 19 rfl (by kernel_rfl) (y_nilCheck rfl rfl) rfl rfl rfl (fun _ h => h.subA) H279 ?_
       clear H279; intro a280 H280
       refine htake 20 rfl (by kernel_rfl) (y_fieldB rfl z_field77_1 rfl (by first | (simp only [Nat.zero_add, Nat.add_zero, Nat.reduceAdd]; rfl) | rfl)) rfl rfl rfl (fun _ h => h.subA) H280 ?_
       clear H280; intro a281 H281
       refine hgo 21 rfl (by kernel_rfl) ?_
       refine st_store1N rfl z_size75 rfl rfl rfl UU q_len_c4 q_set_c4_1 (by decide) rfl rfl H281 ?_
       clear H281; intro wx282 H282
       refine hfinA H282.sep ?_
       refine hdone (by kernel_rfl) ?_
       refine then_n ?_
       refine wp_seq ?_
       refine reg ?_
       refine plain (y_loadAB rfl z_agg23 z_size23 rfl MM (q_ld_b32_0_32 (by first | assumption | exact Tree.hash_len _)) (q_len_b32 (by first | assumption | exact Tree.hash_len _))) rfl rfl rfl H282 ?_
       clear H282; intro a283 H283
       refine st_storeN rfl z_size23 rfl rfl (agg_cells _) UU q_one_b32 (q_len_b32 (by first | assumption | exact Tree.hash_len _)) (q_len_b32 (by first | assumption | exact Tree.hash_len _)) (q_spl_b32_0_b32 (by first | assumption | exact Tree.hash_len _) (by first | assumption | exact Tree.hash_len _)) (by decide) rfl rfl H283 ?_
       clear H283; intro wx284 H284
       refine plain (y_assign rfl rfl) rfl rfl rfl H284 ?_
       clear H284; intro a285 H285
       refine fin ?_
       refine then_n ?_
       refine wp_ret ?_
       -- return 20
       refine retct rfl H285 rfl z_agg23 z_size23 MM (q_len_b32 (by first | assumption | exact Tree.hash_len _)) rfl ?_
       have hz0 := Tree.mine_good hf2 hw2; rw [hz0]; refine ⟨_, _, rfl, ⟨(X ++ [(⟨(Tree.behind (Tree.bl X) its salt), A', c'⟩ : Inbox.BA)]), (.slice ArV (X.length + 1) crV), (.slice ArU (X.length + 1) crU), ⟨Tree.bl_app _ _, hX.app (Tree.Wfs.one hwB)⟩, rfl, rfl⟩, ?_⟩; rw [Tree.bc_append, Tree.bc_one, Tree.hs_one, hc_append, hc_one, List.length_append]; have hfz0 := (H285.front (is := [It.row 69 4 (.slice A' its.length c') its.length (Inbox.ic its), (Tree.It.fz X)]) (.cons PP (.cons PP (.nil _)))); simp only [List.cons_append, List.nil_append] at hfz0; have hfz := Tree.St.freeze (x := (⟨(Tree.behind (Tree.bl X) its salt), A', c'⟩ : Inbox.BA)) hfz0; exact (hfz.only (is := [It.row 26 35 (.slice ArV (X.length + 1) crV) (X.length + 1) (Inbox.bc X ++ Inbox.BA.cells (⟨(Tree.behind (Tree.bl X) its salt), A', c'⟩ : Inbox.BA)), It.row 23 32 (.slice ArU (X.length + 1) crU) (X.length + 1) (hc (Tree.hashes (Tree.bl X)) ++ (Tree.hash (Tree.behind (Tree.bl X) its salt)).1.map u8), It.blk c 77 [(.slice ArV (X.length + 1) crV), (.slice ArU (X.length + 1) crU), i64 dp, i64 de], (Tree.It.fz (X ++ [(⟨(Tree.behind (Tree.bl X) its salt), A', c'⟩ : Inbox.BA)]))]) (.cons PP (.cons PP (.cons PP (.cons PP (.nil _)))))).sep
    ·skip
     refine plain (y_loadB rfl z_agg75 rfl MM q_ix_c4_1) rfl rfl rfl H209 ?_
     clear H209; intro a286 H286
     refine hfinA H286.sep ?_
     refine hgo2 5 14 rfl rfl (by kernel_rfl) ?_ ?_
     ·skip
      refine plain (y_loadB rfl z_agg36 rfl MM q_ix_c4_0) rfl rfl rfl H286 ?_
      clear H286; intro a287 H287
      refine hfinA H287.sep ?_
      refine hgo2 8 14 rfl rfl (by kernel_rfl) ?_ ?_
      ·skip
       refine st_append rfl z_slice36 z_notint36 rfl rfl (fun _ => UU) (fun w hs => Src.slice ((rd_blkA MM) w hs) (Inbox.BA.cells_len (x := (⟨(Tree.behind (Tree.bl X) its salt), A', c'⟩ : Inbox.BA)) (Tree.hash_len _)) (Tree.ba_cell (⟨(Tree.behind (Tree.bl X) its salt), A', c'⟩ : Inbox.BA))) (by unfold maxLen at *; omega) (by omega) rfl rfl rfl H287 ?_
       clear H287; intro v288 a288 wx288 hnil288 H288
       obtain ⟨ArV, crV, hvrV, hRrV, hmrV⟩ := row_shape (v := v288) H288.sep MM
       subst hvrV
       refine hfinA H288.sep ?_
       refine hgo 14 rfl (by kernel_rfl) ?_
       refine st_buildSlice rfl Tryd.underlying75 z_size23 z_zero23 rfl rfl rfl (lay_agg (agg_cells _) (by rw [List.length_map]; exact Tree.hash_len _) rfl) rfl rfl rfl H288 ?_
       clear H288; intro b289 a289 wx289 H289
       refine hfinA H289.sep ?_
       refine hgo 15 rfl (by kernel_rfl) ?_
       refine st_append rfl z_slice75 z_notint75 rfl rfl (fun _ => UU) (fun w hs => Src.slice ((rd_blkA MM) w hs) (by rw [List.length_map]; exact Tree.hash_len _) (by intro q hq; obtain ⟨y, _, rfl⟩ := List.mem_map.1 hq; rfl)) (by unfold maxLen at *; omega) (by omega) rfl rfl rfl H289 ?_
       clear H289; intro v290 a290 wx290 hnil290 H290
       obtain ⟨ArU, crU, hvrU, hRrU, hmrU⟩ := row_shape (v := v290) H290.sep MM
       subst hvrU
       refine hfinA H290.sep ?_
       refine htake 16 rfl (by kernel_rfl) (y_nilCheck rfl rfl) rfl rfl rfl (fun _ h => h.subA) H290 ?_
       clear H290; intro a291 H291
       refine htake 17 rfl (by kernel_rfl) (y_fieldB rfl z_field77_0 rfl (by first | (simp only [Nat.zero_add, Nat.add_zero, Nat.reduceAdd]; rfl) | rfl)) rfl rfl rfl (fun _ h => h.subA) H291 ?_
       clear H291; intro a292 H292
       refine hgo 18 rfl (by kernel_rfl) ?_
       refine st_store1N rfl z_size36 rfl rfl rfl UU q_len_c4 q_set_c4_0 (by decide) rfl rfl H292 ?_
       clear H292; intro wx293 H293
       refine hfinA H293.sep ?_
       refine htake 19 rfl (by kernel_rfl) (y_nilCheck rfl rfl) rfl rfl rfl (fun _ h => h.subA) H293 ?_
       clear H293; intro a294 H294
       refine htake 20 rfl (by kernel_rfl) (y_fieldB rfl z_field77_1 rfl (by first | (simp only [Nat.zero_add, Nat.add_zero, Nat.reduceAdd]; rfl) | rfl)) rfl rfl rfl (fun _ h => h.subA) H294 ?_
       clear H294; intro a295 H295
       refine hgo 21 rfl (by kernel_rfl) ?_
       refine st_store1N rfl z_size75 rfl rfl rfl UU q_len_c4 q_set_c4_1 (by decide) rfl rfl H295 ?_
       clear H295; intro wx296 H296
       refine hfinA H296.sep ?_
       refine hdone (by kernel_rfl) ?_
       refine then_n ?_
       refine wp_seq ?_
       refine reg ?_
       refine plain (y_loadAB rfl z_agg23 z_size23 rfl MM (q_ld_b32_0_32 (by first | assumption | exact Tree.hash_len _)) (q_len_b32 (by first | assumption | exact Tree.hash_len _))) rfl rfl rfl H296 ?_
       clear H296; intro a297 H297
       refine st_storeN rfl z_size23 rfl rfl (agg_cells _) UU q_one_b32 (q_len_b32 (by first | assumption | exact Tree.hash_len _)) (q_len_b32 (by first | assumption | exact Tree.hash_len _)) (q_spl_b32_0_b32 (by first | assumption | exact Tree.hash_len _) (by first | assumption | exact Tree.hash_len _)) (by decide) rfl rfl H297 ?_
       clear H297; intro wx298 H298
       refine plain (y_assign rfl rfl) rfl rfl rfl H298 ?_
       clear H298; intro a299 H299
       refine fin ?_
       refine then_n ?_
       refine wp_ret ?_
       -- return 21
       refine retct rfl H299 rfl z_agg23 z_size23 MM (q_len_b32 (by first | assumption | exact Tree.hash_len _)) rfl ?_
       have hz0 := Tree.mine_good hf2 hw2; rw [hz0]; refine ⟨_, _, rfl, ⟨(X ++ [(⟨(Tree.behind (Tree.bl X) its salt), A', c'⟩ : Inbox.BA)]), (.slice ArV (X.length + 1) crV), (.slice ArU (X.length + 1) crU), ⟨Tree.bl_app _ _, hX.app (Tree.Wfs.one hwB)⟩, rfl, rfl⟩, ?_⟩; rw [Tree.bc_append, Tree.bc_one, Tree.hs_one, hc_append, hc_one, List.length_append]; have hfz0 := (H299.front (is := [It.row 69 4 (.slice A' its.length c') its.length (Inbox.ic its), (Tree.It.fz X)]) (.cons PP (.cons PP (.nil _)))); simp only [List.cons_append, List.nil_append] at hfz0; have hfz := Tree.St.freeze (x := (⟨(Tree.behind (Tree.bl X) its salt), A', c'⟩ : Inbox.BA)) hfz0; exact (hfz.only (is := [It.row 26 35 (.slice ArV (X.length + 1) crV) (X.length + 1) (Inbox.bc X ++ Inbox.BA.cells (⟨(Tree.behind (Tree.bl X) its salt), A', c'⟩ : Inbox.BA)), It.row 23 32 (.slice ArU (X.length + 1) crU) (X.length + 1) (hc (Tree.hashes (Tree.bl X)) ++ (Tree.hash (Tree.behind (Tree.bl X) its salt)).1.map u8), It.blk c 77 [(.slice ArV (X.length + 1) crV), (.slice ArU (X.length + 1) crU), i64 dp, i64 de], (Tree.It.fz (X ++ [(⟨(Tree.behind (Tree.bl X) its salt), A', c'⟩ : Inbox.BA)]))]) (.cons PP (.cons PP (.cons PP (.cons PP (.nil _)))))).sep
      ·skip
       refine st_buildSlice rfl Tryd.underlying75 z_size23 z_zero23 rfl rfl rfl (lay_agg (agg_cells _) (by rw [List.length_map]; exact Tree.hash_len _) rfl) rfl rfl rfl H287 ?_
       clear H287; intro b300 a300 wx300 H300
       refine hfinA H300.sep ?_
       refine hgo 8 rfl (by kernel_rfl) ?_
       refine st_append rfl z_slice36 z_notint36 rfl rfl (fun _ => UU) (fun w hs => Src.slice ((rd_blkA MM) w hs) (Inbox.BA.cells_len (x := (⟨(Tree.behind (Tree.bl X) its salt), A', c'⟩ : Inbox.BA)) (Tree.hash_len _)) (Tree.ba_cell (⟨(Tree.behind (Tree.bl X) its salt), A', c'⟩ : Inbox.BA))) (by unfold maxLen at *; omega) (by omega) rfl rfl rfl H300 ?_
       clear H300; intro v301 a301 wx301 hnil301 H301
       obtain ⟨ArV, crV, hvrV, hRrV, hmrV⟩ := row_shape (v := v301) H301.sep MM
       subst hvrV
       refine hfinA H301.sep ?_
       refine hgo 15 rfl (by kernel_rfl) ?_
       refine st_append rfl z_slice75 z_notint75 rfl rfl (fun _ => UU) (fun w hs => Src.slice ((rd_blkA MM) w hs) (by rw [List.length_map]; exact Tree.hash_len _) (by intro q hq; obtain ⟨y, _, rfl⟩ := List.mem_map.1 hq; rfl)) (by unfold maxLen at *; omega) (by omega) rfl rfl rfl H301 ?_
       clear H301; intro v302 a302 wx302 hnil302 H302
       obtain ⟨ArU, crU, hvrU, hRrU, hmrU⟩ := row_shape (v := v302) H302.sep MM
       subst hvrU
       refine hfinA H302.sep ?_
       refine htake 16 rfl (by kernel_rfl) (y_nilCheck rfl rfl) rfl rfl rfl (fun _ h => h.subA) H302 ?_
       clear H302; intro a303 H303
       refine htake 17 rfl (by kernel_rfl) (y_fieldB rfl z_field77_0 rfl (by first | (simp only [Nat.zero_add, Nat.add_zero, Nat.reduceAdd]; rfl) | rfl)) rfl rfl rfl (fun _ h => h.subA) H303 ?_
       clear H303; intro a304 H304
       refine hgo 18 rfl (by kernel_rfl) ?_
       refine st_store1N rfl z_size36 rfl rfl rfl UU q_len_c4 q_set_c4_0 (by decide) rfl rfl H304 ?_
       clear H304; intro wx305 H305
       refine hfinA H305.sep ?_
       refine htake 19 rfl (by kernel_rfl) (y_nilCheck rfl rfl) rfl rfl rfl (fun _ h => h.subA) H305 ?_
       clear H305; intro a306 H306
       refine htake 20 rfl (by kernel_rfl) (y_fieldB rfl z_field77_1 rfl (by first | (simp only [Nat.zero_add, Nat.add_zero, Nat.reduceAdd]; rfl) | rfl)) rfl rfl rfl (fun _ h => h.subA) H306 ?_
       clear H306; intro a307 H307
       refine hgo 21 rfl (by kernel_rfl) ?_
       refine st_store1N rfl z_size75 rfl rfl rfl UU q_len_c4 q_set_c4_1 (by decide) rfl rfl H307 ?_
       clear H307; intro wx308 H308
       refine hfinA H308.sep ?_
       refine hdone (by kernel_rfl) ?_
       refine then_n ?_
       refine wp_seq ?_
       refine reg ?_
       refine plain (y_loadAB rfl z_agg23 z_size23 rfl MM (q_ld_b32_0_32 (by first | assumption | exact Tree.hash_len _)) (q_len_b32 (by first | assumption | exact Tree.hash_len _))) rfl rfl rfl H308 ?_
       clear H308; intro a309 H309
       refine st_storeN rfl z_size23 rfl rfl (agg_cells _) UU q_one_b32 (q_len_b32 (by first | assumption | exact Tree.hash_len _)) (q_len_b32 (by first | assumption | exact Tree.hash_len _)) (q_spl_b32_0_b32 (by first | assumption | exact Tree.hash_len _) (by first | assumption | exact Tree.hash_len _)) (by decide) rfl rfl H309 ?_
       clear H309; intro wx310 H310
       refine plain (y_assign rfl rfl) rfl rfl rfl H310 ?_
       clear H310; intro a311 H311
       refine fin ?_
       refine then_n ?_
       refine wp_ret ?_
       -- return 22
       refine retct rfl H311 rfl z_agg23 z_size23 MM (q_len_b32 (by first | assumption | exact Tree.hash_len _)) rfl ?_
       have hz0 := Tree.mine_good hf2 hw2; rw [hz0]; refine ⟨_, _, rfl, ⟨(X ++ [(⟨(Tree.behind (Tree.bl X) its salt), A', c'⟩ : Inbox.BA)]), (.slice ArV (X.length + 1) crV), (.slice ArU (X.length + 1) crU), ⟨Tree.bl_app _ _, hX.app (Tree.Wfs.one hwB)⟩, rfl, rfl⟩, ?_⟩; rw [Tree.bc_append, Tree.bc_one, Tree.hs_one, hc_append, hc_one, List.length_append]; have hfz0 := (H311.front (is := [It.row 69 4 (.slice A' its.length c') its.length (Inbox.ic its), (Tree.It.fz X)]) (.cons PP (.cons PP (.nil _)))); simp only [List.cons_append, List.nil_append] at hfz0; have hfz := Tree.St.freeze (x := (⟨(Tree.behind (Tree.bl X) its salt), A', c'⟩ : Inbox.BA)) hfz0; exact (hfz.only (is := [It.row 26 35 (.slice ArV (X.length + 1) crV) (X.length + 1) (Inbox.bc X ++ Inbox.BA.cells (⟨(Tree.behind (Tree.bl X) its salt), A', c'⟩ : Inbox.BA)), It.row 23 32 (.slice ArU (X.length + 1) crU) (X.length + 1) (hc (Tree.hashes (Tree.bl X)) ++ (Tree.hash (Tree.behind (Tree.bl X) its salt)).1.map u8), It.blk c 77 [(.slice ArV (X.length + 1) crV), (.slice ArU (X.length + 1) crU), i64 dp, i64 de], (Tree.It.fz (X ++ [(⟨(Tree.behind (Tree.bl X) its salt), A', c'⟩ : Inbox.BA)]))]) (.cons PP (.cons PP (.cons PP (.cons PP (.nil _)))))).sep
     ·skip
      refine st_buildSlice rfl Tryd.underlying75 z_size23 z_zero23 rfl rfl rfl (lay_agg (agg_cells _) (by rw [List.length_map]; exact Tree.hash_len _) rfl) rfl rfl rfl H286 ?_
      clear H286; intro b312 a312 wx312 H312
      refine hfinA H312.sep ?_
      refine hgo 5 rfl (by kernel_rfl) ?_
      refine plain (y_loadB rfl z_agg36 rfl MM q_ix_c4_0) rfl rfl rfl H312 ?_
      clear H312; intro a313 H313
      refine hfinA H313.sep ?_
      refine hgo 8 rfl (by kernel_rfl) ?_
      refine st_append rfl z_slice36 z_notint36 rfl rfl (fun _ => UU) (fun w hs => Src.slice ((rd_blkA MM) w hs) (Inbox.BA.cells_len (x := (⟨(Tree.behind (Tree.bl X) its salt), A', c'⟩ : Inbox.BA)) (Tree.hash_len _)) (Tree.ba_cell (⟨(Tree.behind (Tree.bl X) its salt), A', c'⟩ : Inbox.BA))) (by unfold maxLen at *; omega) (by omega) rfl rfl rfl H313 ?_
      clear H313; intro v314 a314 wx314 hnil314 H314
      obtain ⟨ArV, crV, hvrV, hRrV, hmrV⟩ := row_shape (v := v314) H314.sep MM
      subst hvrV
      refine hfinA H314.sep ?_
      refine hgo 15 rfl (by kernel_rfl) ?_
      refine st_append rfl z_slice75 z_notint75 rfl rfl (fun _ => UU) (fun w hs => Src.slice ((rd_blkA MM) w hs) (by rw [List.length_map]; exact Tree.hash_len _) (by intro q hq; obtain ⟨y, _, rfl⟩ := List.mem_map.1 hq; rfl)) (by unfold maxLen at *; omega) (by omega) rfl rfl rfl H314 ?_
      clear H314; intro v315 a315 wx315 hnil315 H315
      obtain ⟨ArU, crU, hvrU, hRrU, hmrU⟩ := row_shape (v := v315) H315.sep MM
      subst hvrU
      refine hfinA H315.sep ?_
      refine htake 16 rfl (by kernel_rfl) (y_nilCheck rfl rfl) rfl rfl rfl (fun _ h => h.subA) H315 ?_
      clear H315; intro a316 H316
      refine htake 17 rfl (by kernel_rfl) (y_fieldB rfl z_field77_0 rfl (by first | (simp only [Nat.zero_add, Nat.add_zero, Nat.reduceAdd]; rfl) | rfl)) rfl rfl rfl (fun _ h => h.subA) H316 ?_
      clear H316; intro a317 H317
      refine hgo 18 rfl (by kernel_rfl) ?_
      refine st_store1N rfl z_size36 rfl rfl rfl UU q_len_c4 q_set_c4_0 (by decide) rfl rfl H317 ?_
      clear H317; intro wx318 H318
      refine hfinA H318.sep ?_
      refine htake 19 rfl (by kernel_rfl) (y_nilCheck rfl rfl) rfl rfl rfl (fun _ h => h.subA) H318 ?_
      clear H318; intro a319 H319
      refine htake 20 rfl (by kernel_rfl) (y_fieldB rfl z_field77_1 rfl (by first | (simp only [Nat.zero_add, Nat.add_zero, Nat.reduceAdd]; rfl) | rfl)) rfl rfl rfl (fun _ h => h.subA) H319 ?_
      clear H319; intro a320 H320
      refine hgo 21 rfl (by kernel_rfl) ?_
      refine st_store1N rfl z_size75 rfl rfl rfl UU q_len_c4 q_set_c4_1 (by decide) rfl rfl H320 ?_
      clear H320; intro wx321 H321
      refine hfinA H321.sep ?_
      refine hdone (by kernel_rfl) ?_
      refine then_n ?_
      refine wp_seq ?_
      refine reg ?_
      refine plain (y_loadAB rfl z_agg23 z_size23 rfl MM (q_ld_b32_0_32 (by first | assumption | exact Tree.hash_len _)) (q_len_b32 (by first | assumption | exact Tree.hash_len _))) rfl rfl rfl H321 ?_
      clear H321; intro a322 H322
      refine st_storeN rfl z_size23 rfl rfl (agg_cells _) UU q_one_b32 (q_len_b32 (by first | assumption | exact Tree.hash_len _)) (q_len_b32 (by first | assumption | exact Tree.hash_len _)) (q_spl_b32_0_b32 (by first | assumption | exact Tree.hash_len _) (by first | assumption | exact Tree.hash_len _)) (by decide) rfl rfl H322 ?_
      clear H322; intro wx323 H323
      refine plain (y_assign rfl rfl) rfl rfl rfl H323 ?_
      clear H323; intro a324 H324
      refine fin ?_
      refine then_n ?_
      refine wp_ret ?_
      -- return 23
      refine retct rfl H324 rfl z_agg23 z_size23 MM (q_len_b32 (by first | assumption | exact Tree.hash_len _)) rfl ?_
      have hz0 := Tree.mine_good hf2 hw2; rw [hz0]; refine ⟨_, _, rfl, ⟨(X ++ [(⟨(Tree.behind (Tree.bl X) its salt), A', c'⟩ : Inbox.BA)]), (.slice ArV (X.length + 1) crV), (.slice ArU (X.length + 1) crU), ⟨Tree.bl_app _ _, hX.app (Tree.Wfs.one hwB)⟩, rfl, rfl⟩, ?_⟩; rw [Tree.bc_append, Tree.bc_one, Tree.hs_one, hc_append, hc_one, List.length_append]; have hfz0 := (H324.front (is := [It.row 69 4 (.slice A' its.length c') its.length (Inbox.ic its), (Tree.It.fz X)]) (.cons PP (.cons PP (.nil _)))); simp only [List.cons_append, List.nil_append] at hfz0; have hfz := Tree.St.freeze (x := (⟨(Tree.behind (Tree.bl X) its salt), A', c'⟩ : Inbox.BA)) hfz0; exact (hfz.only (is := [It.row 26 35 (.slice ArV (X.length + 1) crV) (X.length + 1) (Inbox.bc X ++ Inbox.BA.cells (⟨(Tree.behind (Tree.bl X) its salt), A', c'⟩ : Inbox.BA)), It.row 23 32 (.slice ArU (X.length + 1) crU) (X.length + 1) (hc (Tree.hashes (Tree.bl X)) ++ (Tree.hash (Tree.behind (Tree.bl X) its salt)).1.map u8), It.blk c 77 [(.slice ArV (X.length + 1) crV), (.slice ArU (X.length + 1) crU), i64 dp, i64 de], (Tree.It.fz (X ++ [(⟨(Tree.behind (Tree.bl X) its salt), A', c'⟩ : Inbox.BA)]))]) (.cons PP (.cons PP (.cons PP (.cons PP (.nil _)))))).sep
    ·skip
     refine st_buildSlice rfl Tryd.underlying75 z_size23 z_zero23 rfl rfl rfl (lay_agg (agg_cells _) (by rw [List.length_map]; exact Tree.hash_len _) rfl) rfl rfl rfl H209 ?_
     clear H209; intro b325 a325 wx325 H325
     refine hfinA H325.sep ?_
     refine hgo2 5 12 rfl rfl (by kernel_rfl) ?_ ?_
     ·skip
      refine plain (y_loadB rfl z_agg36 rfl MM q_ix_c4_0) rfl rfl rfl H325 ?_
      clear H325; intro a326 H326
      refine hfinA H326.sep ?_
      refine hgo2 8 12 rfl rfl (by kernel_rfl) ?_ ?_
      ·skip
       refine st_append rfl z_slice36 z_notint36 rfl rfl (fun _ => UU) (fun w hs => Src.slice ((rd_blkA MM) w hs) (Inbox.BA.cells_len (x := (⟨(Tree.behind (Tree.bl X) its salt), A', c'⟩ : Inbox.BA)) (Tree.hash_len _)) (Tree.ba_cell (⟨(Tree.behind (Tree.bl X) its salt), A', c'⟩ : Inbox.BA))) (by unfold maxLen at *; omega) (by omega) rfl rfl rfl H326 ?_
       clear H326; intro v327 a327 wx327 hnil327 H327
       obtain ⟨ArV, crV, hvrV, hRrV, hmrV⟩ := row_shape (v := v327) H327.sep MM
       subst hvrV
       refine hfinA H327.sep ?_
       refine hgo 12 rfl (by kernel_rfl) ?_
       refine plain (y_loadB rfl z_agg75 rfl MM q_ix_c4_1) rfl rfl rfl H327 ?_
       clear H327; intro a328 H328
       refine hfinA H328.sep ?_
       refine hgo 15 rfl (by kernel_rfl) ?_
       refine st_append rfl z_slice75 z_notint75 rfl rfl (fun _ => UU) (fun w hs => Src.slice ((rd_blkA MM) w hs) (by rw [List.length_map]; exact Tree.hash_len _) (by intro q hq; obtain ⟨y, _, rfl⟩ := List.mem_map.1 hq; rfl)) (by unfold maxLen at *; omega) (by omega) rfl rfl rfl H328 ?_
       clear H328; intro v329 a329 wx329 hnil329 H329
       obtain ⟨ArU, crU, hvrU, hRrU, hmrU⟩ := row_shape (v := v329) H329.sep MM
       subst hvrU
       refine hfinA H329.sep ?_
       refine htake 16 rfl (by kernel_rfl) (y_nilCheck rfl rfl) rfl rfl rfl (fun _ h => h.subA) H329 ?_
       clear H329; intro a330 H330
       refine htake 17 rfl (by kernel_rfl) (y_fieldB rfl z_field77_0 rfl (by first | (simp only [Nat.zero_add, Nat.add_zero, Nat.reduceAdd]; rfl) | rfl)) rfl rfl rfl (fun _ h => h.subA) H330 ?_
       clear H330; intro a331 H331
       refine hgo 18 rfl (by kernel_rfl) ?_
       refine st_store1N rfl z_size36 rfl rfl rfl UU q_len_c4 q_set_c4_0 (by decide) rfl rfl H331 ?_
       clear H331; intro wx332 H332
       refine hfinA H332.sep ?_
       refine htake 19 rfl (by kernel_rfl) (y_nilCheck rfl rfl) rfl rfl rfl (fun _ h => h.subA) H332 ?_
       clear H332; intro a333 H333
       refine htake 20 rfl (by kernel_rfl) (y_fieldB rfl z_field77_1 rfl (by first | (simp only [Nat.zero_add, Nat.add_zero, Nat.reduceAdd]; rfl) | rfl)) rfl rfl rfl (fun _ h => h.subA) H333 ?_
       clear H333; intro a334 H334
       refine hgo 21 rfl (by kernel_rfl) ?_
       refine st_store1N rfl z_size75 rfl rfl rfl UU q_len_c4 q_set_c4_1 (by decide) rfl rfl H334 ?_
       clear H334; intro wx335 H335
       refine hfinA H335.sep ?_
       refine hdone (by kernel_rfl) ?_
       refine then_n ?_
       refine wp_seq ?_
       refine reg ?_
       refine plain (y_loadAB rfl z_agg23 z_size23 rfl MM (q_ld_b32_0_32 (by first | assumption | exact Tree.hash_len _)) (q_len_b32 (by first | assumption | exact Tree.hash_len _))) rfl rfl rfl H335 ?_
       clear H335; intro a336 H336
       refine st_storeN rfl z_size23 rfl rfl (agg_cells _) UU q_one_b32 (q_len_b32 (by first | assumption | exact Tree.hash_len _)) (q_len_b32 (by first | assumption | exact Tree.hash_len _)) (q_spl_b32_0_b32 (by first | assumption | exact Tree.hash_len _) (by first | assumption | exact Tree.hash_len _)) (by decide) rfl rfl H336 ?_
       clear H336; intro wx337 H337
       refine plain (y_assign rfl rfl) rfl rfl rfl H337 ?_
       clear H337; intro a338 H338
       refine fin ?_
       refine then_n ?_
       refine wp_ret ?_
       -- return 24
       refine retct rfl H338 rfl z_agg23 z_size23 MM (q_len_b32 (by first | assumption | exact Tree.hash_len _)) rfl ?_
       have hz0 := Tree.mine_good hf2 hw2; rw [hz0]; refine ⟨_, _, rfl, ⟨(X ++ [(⟨(Tree.behind (Tree.bl X) its salt), A', c'⟩ : Inbox.BA)]), (.slice ArV (X.length + 1) crV), (.slice ArU (X.length + 1) crU), ⟨Tree.bl_app _ _, hX.app (Tree.Wfs.one hwB)⟩, rfl, rfl⟩, ?_⟩; rw [Tree.bc_append, Tree.bc_one, Tree.hs_one, hc_append, hc_one, List.length_append]; have hfz0 := (H338.front (is := [It.row 69 4 (.slice A' its.length c') its.length (Inbox.ic its), (Tree.It.fz X)]) (.cons PP (.cons PP (.nil _)))); simp only [List.cons_append, List.nil_append] at hfz0; have hfz := Tree.St.freeze (x := (⟨(Tree.behind (Tree.bl X) its salt), A', c'⟩ : Inbox.BA)) hfz0; exact (hfz.only (is := [It.row 26 35 (.slice ArV (X.length + 1) crV) (X.length + 1) (Inbox.bc X ++ Inbox.BA.cells (⟨(Tree.behind (Tree.bl X) its salt), A', c'⟩ : Inbox.BA)), It.row 23 32 (.slice ArU (X.length + 1) crU) (X.length + 1) (hc (Tree.hashes (Tree.bl X)) ++ (Tree.hash (Tree.behind (Tree.bl X) its salt)).1.map u8), It.blk c 77 [(.slice ArV (X.length + 1) crV), (.slice ArU (X.length + 1) crU), i64 dp, i64 de], (Tree.It.fz (X ++ [(⟨(Tree.behind (Tree.bl X) its salt), A', c'⟩ : Inbox.BA)]))]) (.cons PP (.cons PP (.cons PP (.cons PP (.nil _)))))).sep
      ·skip
       refine plain (y_loadB rfl z_agg75 rfl MM q_ix_c4_1) rfl rfl rfl H326 ?_
       clear H326; intro a339 H339
       refine hfinA H339.sep ?_
       refine hgo 8 rfl (by kernel_rfl) ?_
       refine st_append rfl z_slice36 z_notint36 rfl rfl (fun _ => UU) (fun w hs => Src.slice ((rd_blkA MM) w hs) (Inbox.BA.cells_len (x := (⟨(Tree.behind (Tree.bl X) its salt), A', c'⟩ : Inbox.BA)) (Tree.hash_len _)) (Tree.ba_cell (⟨(Tree.behind (Tree.bl X) its salt), A', c'⟩ : Inbox.BA))) (by unfold maxLen at *; omega) (by omega) rfl rfl rfl H339 ?_
       clear H339; intro v340 a340 wx340 hnil340 H340
       obtain ⟨ArV, crV, hvrV, hRrV, hmrV⟩ := row_shape (v := v340) H340.sep MM
       subst hvrV
       refine hfinA H340.sep ?_
       refine hgo 15 rfl (by kernel_rfl) ?_
       refine st_append rfl z_slice75 z_notint75 rfl rfl (fun _ => UU) (fun w hs => Src.slice ((rd_blkA MM) w hs) (by rw [List.length_map]; exact Tree.hash_len _) (by intro q hq; obtain ⟨y, _, rfl⟩ := List.mem_map.1 hq; rfl)) (by unfold maxLen at *; omega) (by omega) rfl rfl rfl H340 ?_
       clear H340; intro v341 a341 wx341 hnil341 H341
       obtain ⟨ArU, crU, hvrU, hRrU, hmrU⟩ := row_shape (v := v341) H341.sep MM
       subst hvrU
       refine hfinA H341.sep ?_
       refine htake 16 rfl (by kernel_rfl) (y_nilCheck rfl rfl) rfl rfl rfl (fun _ h => h.subA) H341 ?_
       clear H341; intro a342 H342
       refine htake 17 rfl (by kernel_rfl) (y_fieldB rfl z_field77_0 rfl (by first | (simp only [Nat.zero_add, Nat.add_zero, Nat.reduceAdd]; rfl) | rfl)) rfl rfl rfl (fun _ h => h.subA) H342 ?_
       clear H342; intro a343 H343
       refine hgo 18 rfl (by kernel_rfl) ?_
       refine st_store1N rfl z_size36 rfl rfl rfl UU q_len_c4 q_set_c4_0 (by decide) rfl rfl H343 ?_
       clear H343; intro wx344 H344
       refine hfinA H344.sep ?_
       refine htake 19 rfl (by kernel_rfl) (y_nilCheck rfl rfl) rfl rfl rfl (fun _ h => h.subA) H344 ?_
       clear H344; intro a345 H345
       refine htake 20 rfl (by kernel_rfl) (y_fieldB rfl z_field77_1 rfl (by first | (simp only [Nat.zero_add, Nat.add_zero, Nat.reduceAdd]; rfl) | rfl)) rfl rfl rfl (fun _ h => h.subA) H345 ?_
       clear H345; intro a346 H346
       refine hgo 21 rfl (by kernel_rfl) ?_
       refine st_store1N rfl z_size75 rfl rfl rfl UU q_len_c4 q_set_c4_1 (by decide) rfl rfl H346 ?_
       clear H346; intro wx347 H347
       refine hfinA H347.sep ?_
       refine hdone (by kernel_rfl) ?_
       refine then_n ?_
       refine wp_seq ?_
       refine reg ?_
       refine plain (y_loadAB rfl z_agg23 z_size23 rfl MM (q_ld_b32_0_32 (by first | assumption | exact Tree.hash_len _)) (q_len_b32 (by first | assumption | exact Tree.hash_len _))) rfl rfl rfl H347 ?_
       clear H347; intro a348 H348
       refine st_storeN rfl z_size23 rfl rfl (agg_cells _) UU q_one_b32 (q_len_b32 (by first | assumption | exact Tree.hash_len _)) (q_len_b32 (by first | assumption | exact Tree.hash_len _)) (q_spl_b32_0_b32 (by first | assumption | exact Tree.hash_len _) (by first | assumption | exact Tree.hash_len _)) (by decide) rfl rfl H348 ?_
       clear H348; intro wx349 H349
       refine plain (y_assign rfl rfl) rfl rfl rfl H349 ?_
       clear H349; intro a350 H350
       refine fin ?_
       refine then_n ?_
       refine wp_ret ?_
       -- return 25
       refine retct rfl H350 rfl z_agg23 z_size23 MM (q_len_b32 (by first | assumption | exact Tree.hash_len _)) rfl ?_
       have hz0 := Tree.mine_good hf2 hw2; rw [hz0]; refine ⟨_, _, rfl, ⟨(X ++ [(⟨(Tree.behind (Tree.bl X) its salt), A', c'⟩ : Inbox.BA)]), (.slice ArV (X.length + 1) crV), (.slice ArU (X.length + 1) crU), ⟨Tree.bl_app _ _, hX.app (Tree.Wfs.one hwB)⟩, rfl, rfl⟩, ?_⟩; rw [Tree.bc_append, Tree.bc_one, Tree.hs_one, hc_append, hc_one, List.length_append]; have hfz0 := (H350.front (is := [It.row 69 4 (.slice A' its.length c') its.length (Inbox.ic its), (Tree.It.fz X)]) (.cons PP (.cons PP (.nil _)))); simp only [List.cons_append, List.nil_append] at hfz0; have hfz := Tree.St.freeze (x := (⟨(Tree.behind (Tree.bl X) its salt), A', c'⟩ : Inbox.BA)) hfz0; exact (hfz.only (is := [It.row 26 35 (.slice ArV (X.length + 1) crV) (X.length + 1) (Inbox.bc X ++ Inbox.BA.cells (⟨(Tree.behind (Tree.bl X) its salt), A', c'⟩ : Inbox.BA)), It.row 23 32 (.slice ArU (X.length + 1) crU) (X.length + 1) (hc (Tree.hashes (Tree.bl X)) ++ (Tree.hash (Tree.behind (Tree.bl X) its salt)).1.map u8), It.blk c 77 [(.slice ArV (X.length + 1) crV), (.slice ArU (X.length + 1) crU), i64 dp, i64 de], (Tree.It.fz (X ++ [(⟨(Tree.behind (Tree.bl X) its salt), A', c'⟩ : Inbox.BA)]))]) (.cons PP (.cons PP (.cons PP (.cons PP (.nil _)))))).sep
     ·skip
      refine plain (y_loadB rfl z_agg75 rfl MM q_ix_c4_1) rfl rfl rfl H325 ?_
      clear H325; intro a351 H351
      refine hfinA H351.sep ?_
      refine hgo 5 rfl (by kernel_rfl) ?_
      refine plain (y_loadB rfl z_agg36 rfl MM q_ix_c4_0) rfl rfl rfl H351 ?_
      clear H351; intro a352 H352
      refine hfinA H352.sep ?_
      refine hgo 8 rfl (by kernel_rfl) ?_
      refine st_append rfl z_slice36 z_notint36 rfl rfl (fun _ => UU) (fun w hs => Src.slice ((rd_blkA MM) w hs) (Inbox.BA.cells_len (x := (⟨(Tree.behind (Tree.bl X) its salt), A', c'⟩ : Inbox.BA)) (Tree.hash_len _)) (Tree.ba_cell (⟨(Tree.behind (Tree.bl X) its salt), A', c'⟩ : Inbox.BA))) (by unfold maxLen at *; omega) (by omega) rfl rfl rfl H352 ?_
      clear H352; intro v353 a353 wx353 hnil353 H353
      obtain ⟨ArV, crV, hvrV, hRrV, hmrV⟩ := row_shape (v := v353) H353.sep MM
      subst hvrV
      refine hfinA H353.sep ?_
      refine hgo 15 rfl (by kernel_rfl) ?_
      refine st_append rfl z_slice75 z_notint75 rfl rfl (fun _ => UU) (fun w hs => Src.slice ((rd_blkA MM) w hs) (by rw [List.length_map]; exact Tree.hash_len _) (by intro q hq; obtain ⟨y, _, rfl⟩ := List.mem_map.1 hq; rfl)) (by unfold maxLen at *; omega) (by omega) rfl rfl rfl H353 ?_
      clear H353; intro v354 a354 wx354 hnil354 H354
      obtain ⟨ArU, crU, hvrU, hRrU, hmrU⟩ := row_shape (v := v354) H354.sep MM
      subst hvrU
      refine hfinA H354.sep ?_
      refine htake 16 rfl (by kernel_rfl) (y_nilCheck rfl rfl) rfl rfl rfl (fun _ h => h.subA) H354 ?_
      clear H354; intro a355 H355
      refine htake 17 rfl (by kernel_rfl) (y_fieldB rfl z_field77_0 rfl (by first | (simp only [Nat.zero_add, Nat.add_zero, Nat.reduceAdd]; rfl) | rfl)) rfl rfl rfl (fun _ h => h.subA) H355 ?_
      clear H355; intro a356 H356
      refine hgo 18 rfl (by kernel_rfl) ?_
      refine st_store1N rfl z_size36 rfl rfl rfl UU q_len_c4 q_set_c4_0 (by decide) rfl rfl H356 ?_
      clear H356; intro wx357 H357
      refine hfinA H357.sep ?_
      refine htake 19 rfl (by kernel_rfl) (y_nilCheck rfl rfl) rfl rfl rfl (fun _ h => h.subA) H357 ?_
      clear H357; intro a358 H358
      refine htake 20 rfl (by kernel_rfl) (y_fieldB rfl z_field77_1 rfl (by first | (simp only [Nat.zero_add, Nat.add_zero, Nat.reduceAdd]; rfl) | rfl)) rfl rfl rfl (fun _ h => h.subA) H358 ?_
      clear H358; intro a359 H359
      refine hgo 21 rfl (by kernel_rfl) ?_
      refine st_store1N rfl z_size75 rfl rfl rfl UU q_len_c4 q_set_c4_1 (by decide) rfl rfl H359 ?_
      clear H359; intro wx360 H360
      refine hfinA H360.sep ?_
      refine hdone (by kernel_rfl) ?_
      refine then_n ?_
      refine wp_seq ?_
      refine reg ?_
      refine plain (y_loadAB rfl z_agg23 z_size23 rfl MM (q_ld_b32_0_32 (by first | assumption | exact Tree.hash_len _)) (q_len_b32 (by first | assumption | exact Tree.hash_len _))) rfl rfl rfl H360 ?_
      clear H360; intro a361 H361
      refine st_storeN rfl z_size23 rfl rfl (agg_cells _) UU q_one_b32 (q_len_b32 (by first | assumption | exact Tree.hash_len _)) (q_len_b32 (by first | assumption | exact Tree.hash_len _)) (q_spl_b32_0_b32 (by first | assumption | exact Tree.hash_len _) (by first | assumption | exact Tree.hash_len _)) (by decide) rfl rfl H361 ?_
      clear H361; intro wx362 H362
      refine plain (y_assign rfl rfl) rfl rfl rfl H362 ?_
      clear H362; intro a363 H363
      refine fin ?_
      refine then_n ?_
      refine wp_ret ?_
      -- return 26
      refine retct rfl H363 rfl z_agg23 z_size23 MM (q_len_b32 (by first | assumption | exact Tree.hash_len _)) rfl ?_
      have hz0 := Tree.mine_good hf2 hw2; rw [hz0]; refine ⟨_, _, rfl, ⟨(X ++ [(⟨(Tree.behind (Tree.bl X) its salt), A', c'⟩ : Inbox.BA)]), (.slice ArV (X.length + 1) crV), (.slice ArU (X.length + 1) crU), ⟨Tree.bl_app _ _, hX.app (Tree.Wfs.one hwB)⟩, rfl, rfl⟩, ?_⟩; rw [Tree.bc_append, Tree.bc_one, Tree.hs_one, hc_append, hc_one, List.length_append]; have hfz0 := (H363.front (is := [It.row 69 4 (.slice A' its.length c') its.length (Inbox.ic its), (Tree.It.fz X)]) (.cons PP (.cons PP (.nil _)))); simp only [List.cons_append, List.nil_append] at hfz0; have hfz := Tree.St.freeze (x := (⟨(Tree.behind (Tree.bl X) its salt), A', c'⟩ : Inbox.BA)) hfz0; exact (hfz.only (is := [It.row 26 35 (.slice ArV (X.length + 1) crV) (X.length + 1) (Inbox.bc X ++ Inbox.BA.cells (⟨(Tree.behind (Tree.bl X) its salt), A', c'⟩ : Inbox.BA)), It.row 23 32 (.slice ArU (X.length + 1) crU) (X.length + 1) (hc (Tree.hashes (Tree.bl X)) ++ (Tree.hash (Tree.behind (Tree.bl X) its salt)).1.map u8), It.blk c 77 [(.slice ArV (X.length + 1) crV), (.slice ArU (X.length + 1) crU), i64 dp, i64 de], (Tree.It.fz (X ++ [(⟨(Tree.behind (Tree.bl X) its salt), A', c'⟩ : Inbox.BA)]))]) (.cons PP (.cons PP (.cons PP (.cons PP (.nil _)))))).sep
   ·skip
    refine plain (y_loadB rfl z_agg75 rfl MM q_ix_c4_1) rfl rfl rfl H53 ?_
    clear H53; intro a364 H364
    refine hfinA H364.sep ?_
    refine hgo3 5 7 14 rfl rfl rfl (by kernel_rfl) ?_ ?_ ?_
    ·skip
     refine plain (y_loadB rfl z_agg36 rfl MM q_ix_c4_0) rfl rfl rfl H364 ?_
     clear H364; intro a365 H365
     refine hfinA H365.sep ?_
     refine hgo2 7 14 rfl rfl (by kernel_rfl) ?_ ?_
     ·skip
      refine st_buildSlice rfl Tryd.underlying36 z_size26 z_zero26 rfl rfl rfl (lay_agg (agg_cells _) (Inbox.BA.cells_len (x := (⟨(Tree.behind (Tree.bl X) its salt), A', c'⟩ : Inbox.BA)) (Tree.hash_len _)) rfl) rfl rfl rfl H365 ?_
      clear H365; intro b366 a366 wx366 H366
      refine hfinA H366.sep ?_
      refine hgo2 8 14 rfl rfl (by kernel_rfl) ?_ ?_
      ·skip
       refine st_append rfl z_slice36 z_notint36 rfl rfl (fun _ => UU) (fun w hs => Src.slice ((rd_blkA MM) w hs) (Inbox.BA.cells_len (x := (⟨(Tree.behind (Tree.bl X) its salt), A', c'⟩ : Inbox.BA)) (Tree.hash_len _)) (Tree.ba_cell (⟨(Tree.behind (Tree.bl X) its salt), A', c'⟩ : Inbox.BA))) (by unfold maxLen at *; omega) (by omega) rfl rfl rfl H366 ?_
       clear H366; intro v367 a367 wx367 hnil367 H367
       obtain ⟨ArV, crV, hvrV, hRrV, hmrV⟩ := row_shape (v := v367) H367.sep MM
       subst hvrV
       refine hfinA H367.sep ?_
       refine hgo 14 rfl (by kernel_rfl) ?_
       refine st_buildSlice rfl Tryd.underlying75 z_size23 z_zero23 rfl rfl rfl (lay_agg (agg_cells _) (by rw [List.length_map]; exact Tree.hash_len _) rfl) rfl rfl rfl H367 ?_
       clear H367; intro b368 a368 wx368 H368
       refine hfinA H368.sep ?_
       refine hgo 15 rfl (by kernel_rfl) ?_
       refine st_append rfl z_slice75 z_notint75 rfl rfl (fun _ => UU) (fun w hs => Src.slice ((rd_blkA MM) w hs) (by rw [List.length_map]; exact Tree.hash_len _) (by intro q hq; obtain ⟨y, _, rfl⟩ := List.mem_map.1 hq; rfl)) (by unfold maxLen at *; omega) (by omega) rfl rfl rfl H368 ?_
       clear H368; intro v369 a369 wx369 hnil369 H369
       obtain ⟨ArU, crU, hvrU, hRrU, hmrU⟩ := row_shape (v := v369) H369.sep MM
       subst hvrU
       refine hfinA H369.sep ?_
       refine htake 16 rfl (by kernel_rfl) (y_nilCheck rfl rfl) rfl rfl rfl (fun _ h => h.subA) H369 ?_
       clear H369; intro a370 H370
       refine htake 17 rfl (by kernel_rfl) (y_fieldB rfl z_field77_0 rfl (by first | (simp only [Nat.zero_add, Nat.add_zero, Nat.reduceAdd]; rfl) | rfl)) rfl rfl rfl (fun _ h => h.subA) H370 ?_
       clear H370; intro a371 H371
       refine hgo 18 rfl (by kernel_rfl) ?_
       refine st_store1N rfl z_size36 rfl rfl rfl UU q_len_c4 q_set_c4_0 (by decide) rfl rfl H371 ?_
       clear H371; intro wx372 H372
       refine hfinA H372.sep ?_
       refine htake 19 rfl (by kernel_rfl) (y_nilCheck rfl rfl) rfl rfl rfl (fun _ h => h.subA) H372 ?_
       clear H372; intro a373 H373
       refine htake 20 rfl (by kernel_rfl) (y_fieldB rfl z_field77_1 rfl (by first | (simp only [Nat.zero_add, Nat.add_zero, Nat.reduceAdd]; rfl) | rfl)) rfl rfl rfl (fun _ h => h.subA) H373 ?_
       clear H373; intro a374 H374
       refine hgo 21 rfl (by kernel_rfl) ?_
       refine st_store1N rfl z_size75 rfl rfl rfl UU q_len_c4 q_set_c4_1 (by decide) rfl rfl H374 ?_
       clear H374; intro wx375 H375
       refine hfinA H375.sep ?_
       refine hdone (by kernel_rfl) ?_
       refine then_n ?_
       refine wp_seq ?_
       refine reg ?_
       refine plain (y_loadAB rfl z_agg23 z_size23 rfl MM (q_ld_b32_0_32 (by first | assumption | exact Tree.hash_len _)) (q_len_b32 (by first | assumption | exact Tree.hash_len _))) rfl rfl rfl H375 ?_
       clear H375; intro a376 H376
       refine st_storeN rfl z_size23 rfl rfl (agg_cells _) UU q_one_b32 (q_len_b32 (by first | assumption | exact Tree.hash_len _)) (q_len_b32 (by first | assumption | exact Tree.hash_len _)) (q_spl_b32_0_b32 (by first | assumption | exact Tree.hash_len _) (by first | assumption | exact Tree.hash_len _)) (by decide) rfl rfl H376 ?_
       clear H376; intro wx377 H377
       refine plain (y_assign rfl rfl) rfl rfl rfl H377 ?_
       clear H377; intro a378 H378
       refine fin ?_
       refine then_n ?_
       refine wp_ret ?_
       -- return 27
       refine retct rfl H378 rfl z_agg23 z_size23 MM (q_len_b32 (by first | assumption | exact Tree.hash_len _)) rfl ?_
       have hz0 := Tree.mine_good hf2 hw2; rw [hz0]; refine ⟨_, _, rfl, ⟨(X ++ [(⟨(Tree.behind (Tree.bl X) its salt), A', c'⟩ : Inbox.BA)]), (.slice ArV (X.length + 1) crV), (.slice ArU (X.length + 1) crU), ⟨Tree.bl_app _ _, hX.app (Tree.Wfs.one hwB)⟩, rfl, rfl⟩, ?_⟩; rw [Tree.bc_append, Tree.bc_one, Tree.hs_one, hc_append, hc_one, List.length_append]; have hfz0 := (H378.front (is := [It.row 69 4 (.slice A' its.length c') its.length (Inbox.ic its), (Tree.It.fz X)]) (.cons PP (.cons PP (.nil _)))); simp only [List.cons_append, List.nil_append] at hfz0; have hfz := Tree.St.freeze (x := (⟨(Tree.behind (Tree.bl X) its salt), A', c'⟩ : Inbox.BA)) hfz0; exact (hfz.only (is := [It.row 26 35 (.slice ArV (X.length + 1) crV) (X.length + 1) (Inbox.bc X ++ Inbox.BA.cells (⟨(Tree.behind (Tree.bl X) its salt), A', c'⟩ : Inbox.BA)), It.row 23 32 (.slice ArU (X.length + 1) crU) (X.length + 1) (hc (Tree.hashes (Tree.bl X)) ++ (Tree.hash (Tree.behind (Tree.bl X) its salt)).1.map u8), It.blk c 77 [(.slice ArV (X.length + 1) crV), (.slice ArU (X.length + 1) crU), i64 dp, i64 de], (Tree.It.fz (X ++ [(⟨(Tree.behind (Tree.bl X) its salt), A', c'⟩ : Inbox.BA)]))]) (.cons PP (.cons PP (.cons PP (.cons PP (.nil _)))))).sep
      ·skip
       refine st_buildSlice rfl Tryd.underlying75 z_size23 z_zero23 rfl rfl rfl (lay_agg (agg_cells _) (by rw [List.length_map]; exact Tree.hash_len _) rfl) rfl rfl rfl H366 ?_
       clear H366; intro b379 a379 wx379 H379
       refine hfinA H379.sep ?_
       refine hgo 8 rfl (by kernel_rfl) ?_
       refine st_append rfl z_slice36 z_notint36 rfl rfl (fun _ => UU) (fun w hs => Src.slice ((rd_blkA MM) w hs) (Inbox.BA.cells_len (x := (⟨(Tree.behind (Tree.bl X) its salt), A', c'⟩ : Inbox.BA)) (Tree.hash_len _)) (Tree.ba_cell (⟨(Tree.behind (Tree.bl X) its salt), A', c'⟩ : Inbox.BA))) (by unfold maxLen at *; omega) (by omega) rfl rfl rfl H379 ?_
       clear H379; intro v380 a380 wx380 hnil380 H380
       obtain ⟨ArV, crV, hvrV, hRrV, hmrV⟩ := row_shape (v := v380) H380.sep MM
       subst hvrV
       refine hfinA H380.sep ?_
       refine hgo 15 rfl (by kernel_rfl) ?_
       refine st_append rfl z_slice75 z_notint75 rfl rfl (fun _ => UU) (fun w hs => Src.slice ((rd_blkA MM) w hs) (by rw [List.length_map]; exact Tree.hash_len _) (by intro q hq; obtain ⟨y, _, rfl⟩ := List.mem_map.1 hq; rfl)) (by unfold maxLen at *; omega) (by omega) rfl rfl rfl H380 ?_
       clear H380; intro v381 a381 wx381 hnil381 H381
       obtain ⟨ArU, crU, hvrU, hRrU, hmrU⟩ := row_shape (v := v381) H381.sep MM
       subst hvrU
       refine hfinA H381.sep ?_
       refine htake 16 rfl (by kernel_rfl) (y_nilCheck rfl rfl) rfl rfl rfl (fun _ h => h.subA) H381 ?_
       clear H381; intro a382 H382
       refine htake 17 rfl (by kernel_rfl) (y_fieldB rfl z_field77_0 rfl (by first | (simp only [Nat.zero_add, Nat.add_zero, Nat.reduceAdd]; rfl) | rfl)) rfl rfl rfl (fun _ h => h.subA) H382 ?_
       clear H382; intro a383 H383
       refine hgo 18 rfl (by kernel_rfl) ?_
       refine st_store1N rfl z_size36 rfl rfl rfl UU q_len_c4 q_set_c4_0 (by decide) rfl rfl H383 ?_
       clear H383; intro wx384 H384
       refine hfinA H384.sep ?_
       refine htake 19 rfl (by kernel_rfl) (y_nilCheck rfl rfl) rfl rfl rfl (fun _ h => h.subA) H384 ?_
       clear H384; intro a385 H385
       refine htake 20 rfl (by kernel_rfl) (y_fieldB rfl z_field77_1 rfl (by first | (simp only [Nat.zero_add, Nat.add_zero, Nat.reduceAdd]; rfl) | rfl)) rfl rfl rfl (fun _ h => h.subA) H385 ?_
       clear H385; intro a386 H386
       refine hgo 21 rfl (by kernel_rfl) ?_
       refine st_store1N rfl z_size75 rfl rfl rfl UU q_len_c4 q_set_c4_1 (by decide) rfl rfl H386 ?_
       clear H386; intro wx387 H387
       refine hfinA H387.sep ?_
       refine hdone (by kernel_rfl) ?_
       refine then_n ?_
       refine wp_seq ?_
       refine reg ?_
       refine plain (y_loadAB rfl z_agg23 z_size23 rfl MM (q_ld_b32_0_32 (by first | assumption | exact Tree.hash_len _)) (q_len_b32 (by first | assumption | exact Tree.hash_len _))) rfl rfl rfl H387 ?_
       clear H387; intro a388 H388
       refine st_storeN rfl z_size23 rfl rfl (agg_cells _) UU q_one_b32 (q_len_b32 (by first | assumption | exact Tree.hash_len _)) (q_len_b32 (by first | assumption | exact Tree.hash_len _)) (q_spl_b32_0_b32 (by first | assumption | exact Tree.hash_len _) (by first | assumption | exact Tree.hash_len _)) (by decide) rfl rfl H388 ?_
       clear H388; intro wx389 H389
       refine plain (y_assign rfl rfl) rfl rfl rfl H389 ?_
       clear H389; intro a390 H390
       refine fin ?_
       refine then_n ?_
       refine wp_ret ?_
       -- return 28
       refine retct rfl H390 rfl z_agg23 z_size23 MM (q_len_b32 (by first | assumption | exact Tree.hash_len _)) rfl ?_
       have hz0 := Tree.mine_good hf2 hw2; rw [hz0]; refine ⟨_, _, rfl, ⟨(X ++ [(⟨(Tree.behind (Tree.bl X) its salt), A', c'⟩ : Inbox.BA)]), (.slice ArV (X.length + 1) crV), (.slice ArU (X.length + 1) crU), ⟨Tree.bl_app _ _, hX.app (Tree.Wfs.one hwB)⟩, rfl, rfl⟩, ?_⟩; rw [Tree.bc_append, Tree.bc_one, Tree.hs_one, hc_append, hc_one, List.length_append]; have hfz0 := (H390.front (is := [It.row 69 4 (.slice A' its.length c') its.length (Inbox.ic its), (Tree.It.fz X)]) (.cons PP (.cons PP (.nil _)))); simp only [List.cons_append, List.nil_append] at hfz0; have hfz := Tree.St.freeze (x := (⟨(Tree.behind (Tree.bl X) its salt), A', c'⟩ : Inbox.BA)) hfz0; exact (hfz.only (is := [It.row 26 35 (.slice ArV (X.length + 1) crV) (X.length + 1) (Inbox.bc X ++ Inbox.BA.cells (⟨(Tree.behind (Tree.bl X) its salt), A', c'⟩ : Inbox.BA)), It.row 23 32 (.slice ArU (X.length + 1) crU) (X.length + 1) (hc (Tree.hashes (Tree.bl X)) ++ (Tree.hash (Tree.behind (Tree.bl X) its salt)).1.map u8), It.blk c 77 [(.slice ArV (X.length + 1) crV), (.slice ArU (X.length + 1) crU), i64 dp, i64 de], (Tree.It.fz (X ++ [(⟨(Tree.behind (Tree.bl X) its salt), A', c'⟩ : Inbox.BA)]))]) (.cons PP (.cons PP (.cons PP (.cons PP (.nil _)))))).sep
     ·skip
      refine st_buildSlice rfl Tryd.underlying75 z_size23 z_zero23 rfl rfl rfl (lay_agg (agg_cells _) (by rw [List.length_map]; exact Tree.hash_len _) rfl) rfl rfl rfl H365 ?_
      clear H365; intro b391 a391 wx391 H391
      refine hfinA H391.sep ?_
      refine hgo 7 rfl (by kernel_rfl) ?_
      refine st_buildSlice rfl Tryd.underlying36 z_size26 z_zero26 rfl rfl rfl (lay_agg (agg_cells _) (Inbox.BA.cells_len (x := (⟨(Tree.behind (Tree.bl X) its salt), A', c'⟩ : Inbox.BA)) (Tree.hash_len _)) rfl) rfl rfl rfl H391 ?_
      clear H391; intro b392 a392 wx392 H392
      refine hfinA H392.sep ?_
      refine hgo 8 rfl (by kernel_rfl) ?_
      refine st_append rfl z_slice36 z_notint36 rfl rfl (fun _ => UU) (fun w hs => Src.slice ((rd_blkA MM) w hs) (Inbox.BA.cells_len (x := (⟨(Tree.behind (Tree.bl X) its salt), A', c'⟩ : Inbox.BA)) (Tree.hash_len _)) (Tree.ba_cell (⟨(Tree.behind (Tree.bl X) its salt), A', c'⟩ : Inbox.BA))) (by unfold maxLen at *; omega) (by omega) rfl rfl rfl H392 ?_
      clear H392; intro v393 a393 wx393 hnil393 H393
      obtain ⟨ArV, crV, hvrV, hRrV, hmrV⟩ := row_shape (v := v393) H393.sep MM
      subst hvrV
      refine hfinA H393.sep ?_
      refine hgo 15 rfl (by kernel_rfl) ?_
      refine st_append rfl z_slice75 z_notint75 rfl rfl (fun _ => UU) (fun w hs => Src.slice ((rd_blkA MM) w hs) (by rw [List.length_map]; exact Tree.hash_len _) (by intro q hq; obtain ⟨y, _, rfl⟩ := List.mem_map.1 hq; rfl)) (by unfold maxLen at *; omega) (by omega) rfl rfl rfl H393 ?_
      clear H393; intro v394 a394 wx394 hnil394 H394
      obtain ⟨ArU, crU, hvrU, hRrU, hmrU⟩ := row_shape (v := v394) H394.sep MM
      subst hvrU
      refine hfinA H394.sep ?_
      refine htake 16 rfl (by kernel_rfl) (y_nilCheck rfl rfl) rfl rfl rfl (fun _ h => h.subA) H394 ?_
      clear H394; intro a395 H395
      refine htake 17 rfl (by kernel_rfl) (y_fieldB rfl z_field77_0 rfl (by first | (simp only [Nat.zero_add, Nat.add_zero, Nat.reduceAdd]; rfl) | rfl)) rfl rfl rfl (fun _ h => h.subA) H395 ?_
      clear H395; intro a396 H396
      refine hgo 18 rfl (by kernel_rfl) ?_
      refine st_store1N rfl z_size36 rfl rfl rfl UU q_len_c4 q_set_c4_0 (by decide) rfl rfl H396 ?_
      clear H396; intro wx397 H397
      refine hfinA H397.sep ?_
      refine htake 19 rfl (by kernel_rfl) (y_nilCheck rfl rfl) rfl rfl rfl (fun _ h => h.subA) H397 ?_
      clear H397; intro a398 H398
      refine htake 20 rfl (by kernel_rfl) (y_fieldB rfl z_field77_1 rfl (by first | (simp only [Nat.zero_add, Nat.add_zero, Nat.reduceAdd]; rfl) | rfl)) rfl rfl rfl (fun _ h => h.subA) H398 ?_
      clear H398; intro a399 H399
      refine hgo 21 rfl (by kernel_rfl) ?_
      refine st_store1N rfl z_size75 rfl rfl rfl UU q_len_c4 q_set_c4_1 (by decide) rfl rfl H399 ?_
      clear H399; intro wx400 H400
      refine hfinA H400.sep ?_
      refine hdone (by kernel_rfl) ?_
      refine then_n ?_
      refine wp_seq ?_
      refine reg ?_
      refine plain (y_loadAB rfl z_agg23 z_size23 rfl MM (q_ld_b32_0_32 (by first | assumption | exact Tree.hash_len _)) (q_len_b32 (by first | assumption | exact Tree.hash_len _))) rfl rfl rfl H400 ?_
      clear H400; intro a401 H401
      refine st_storeN rfl z_size23 rfl rfl (agg_cells _) UU q_one_b32 (q_len_b32 (by first | assumption | exact Tree.hash_len _)) (q_len_b32 (by first | assumption | exact Tree.hash_len _)) (q_spl_b32_0_b32 (by first | assumption | exact Tree.hash_len _) (by first | assumption | exact Tree.hash_len _)) (by decide) rfl rfl H401 ?_
      clear H401; intro wx402 H402
      refine plain (y_assign rfl rfl) rfl rfl rfl H402 ?_
      clear H402; intro a403 H403
      refine fin ?_
      refine then_n ?_
      refine wp_ret ?_
      -- return 29
      refine retct rfl H403 rfl z_agg23 z_size23 MM (q_len_b32 (by first | assumption | exact Tree.hash_len _)) rfl ?_
      have hz0 := Tree.mine_good hf2 hw2; rw [hz0]; refine ⟨_, _, rfl, ⟨(X ++ [(⟨(Tree.behind (Tree.bl X) its salt), A', c'⟩ : Inbox.BA)]), (.slice ArV (X.length + 1) crV), (.slice ArU (X.length + 1) crU), ⟨Tree.bl_app _ _, hX.app (Tree.Wfs.one hwB)⟩, rfl, rfl⟩, ?_⟩; rw [Tree.bc_append, Tree.bc_one, Tree.hs_one, hc_append, hc_one, List.length_append]; have hfz0 := (H403.front (is := [It.row 69 4 (.slice A' its.length c') its.length (Inbox.ic its), (Tree.It.fz X)]) (.cons PP (.cons PP (.nil _)))); simp only [List.cons_append, List.nil_append] at hfz0; have hfz := Tree.St.freeze (x := (⟨(Tree.behind (Tree.bl X) its salt), A', c'⟩ : Inbox.BA)) hfz0; exact (hfz.only (is := [It.row 26 35 (.slice ArV (X.length + 1) crV) (X.length + 1) (Inbox.bc X ++ Inbox.BA.cells (⟨(Tree.behind (Tree.bl X) its salt), A', c'⟩ : Inbox.BA)), It.row 23 32 (.slice ArU (X.length + 1) crU) (X.length + 1) (hc (Tree.hashes (Tree.bl X)) ++ (Tree.hash (Tree.behind (Tree.bl X) its salt)).1.map u8), It.blk c 77 [(.slice ArV (X.length + 1) crV), (.slice ArU (X.length + 1) crU), i64 dp, i64 de], (Tree.It.fz (X ++ [(⟨(Tree.behind (Tree.bl X) its salt), A', c'⟩ : Inbox.BA)]))]) (.cons PP (.cons PP (.cons PP (.cons PP (.nil _)))))).sep
    ·skip
     refine st_buildSlice rfl Tryd.underlying36 z_size26 z_zero26 rfl rfl rfl (lay_agg (agg_cells _) (Inbox.BA.cells_len (x := (⟨(Tree.behind (Tree.bl X) its salt), A', c'⟩ : Inbox.BA)) (Tree.hash_len _)) rfl) rfl rfl rfl H364 ?_
     clear H364; intro b404 a404 wx404 H404
     refine hfinA H404.sep ?_
     refine hgo2 5 14 rfl rfl (by kernel_rfl) ?_ ?_
     ·skip
      refine plain (y_loadB rfl z_agg36 rfl MM q_ix_c4_0) rfl rfl rfl H404 ?_
      clear H404; intro a405 H405
      refine hfinA H405.sep ?_
      refine hgo2 8 14 rfl rfl (by kernel_rfl) ?_ ?_
      ·skip
       refine st_append rfl z_slice36 z_notint36 rfl rfl (fun _ => UU) (fun w hs => Src.slice ((rd_blkA MM) w hs) (Inbox.BA.cells_len (x := (⟨(Tree.behind (Tree.bl X) its salt), A', c'⟩ : Inbox.BA)) (Tree.hash_len _)) (Tree.ba_cell (⟨(Tree.behind (Tree.bl X) its salt), A', c'⟩ : Inbox.BA))) (by unfold maxLen at *; omega) (by omega) rfl rfl rfl H405 ?_
       clear H405; intro v406 a406 wx406 hnil406 H406
       obtain ⟨ArV, crV, hvrV, hRrV, hmrV⟩ := row_shape (v := v406) H406.sep MM
       subst hvrV
       refine hfinA H406.sep ?_
       refine hgo 14 rfl (by kernel_rfl) ?_
       refine st_buildSlice rfl Tryd.underlying75 z_size23 z_zero23 rfl rfl rfl (lay_agg (agg_cells _) (by rw [List.length_map]; exact Tree.hash_len _) rfl) rfl rfl rfl H406 ?_
       clear H406; intro b407 a407 wx407 H407
       refine hfinA H407.sep ?_
       refine hgo 15 rfl (by kernel_rfl) ?_
       refine st_append rfl z_slice75 z_notint75 rfl rfl (fun _ => UU) (fun w hs => Src.slice ((rd_blkA MM) w hs) (by rw [List.length_map]; exact Tree.hash_len _) (by intro q hq; obtain ⟨y, _, rfl⟩ := List.mem_map.1 hq; rfl)) (by unfold maxLen at *; omega) (by omega) rfl rfl rfl H407 ?_
       clear H407; intro v408 a408 wx408 hnil408 H408
       obtain ⟨ArU, crU, hvrU, hRrU, hmrU⟩ := row_shape (v := v408) H408.sep MM
       subst hvrU
       refine hfinA H408.sep ?_
       refine htake 16 rfl (by kernel_rfl) (y_nilCheck rfl rfl) rfl rfl rfl (fun _ h => h.subA) H408 ?_
       clear H408; intro a409 H409
       refine htake 17 rfl (by kernel_rfl) (y_fieldB rfl z_field77_0 rfl (by first | (simp only [Nat.zero_add, Nat.add_zero, Nat.reduceAdd]; rfl) | rfl)) rfl rfl rfl (fun _ h => h.subA) H409 ?_
       clear H409; intro a410 H410
       refine hgo 18 rfl (by kernel_rfl) ?_
       refine st_store1N rfl z_size36 rfl rfl rfl UU q_len_c4 q_set_c4_0 (by decide) rfl rfl H410 ?_
       clear H410; intro wx411 H411
       refine hfinA H411.sep ?_
       refine htake 19 rfl (by kernel_rfl) (y_nilCheck rfl rfl) rfl rfl rfl (fun _ h => h.subA) H411 ?_
       clear H411; intro a412 H412
       refine htake 20 rfl (by kernel_rfl) (y_fieldB rfl z_field77_1 rfl (by first | (simp only [Nat.zero_add, Nat.add_zero, Nat.reduceAdd]; rfl) | rfl)) rfl rfl rfl (fun _ h => h.subA) H412 ?_
       clear H412; intro a413 H413
       refine hgo 21 rfl (by kernel_rfl) ?_
       refine st_store1N rfl z_size75 rfl rfl rfl UU q_len_c4 q_set_c4_1 (by decide) rfl rfl H413 ?_
       clear H413; intro wx414 H414
       refine hfinA H414.sep ?_
       refine hdone (by kernel_rfl) ?_
       refine then_n ?_
       refine wp_seq ?_
       refine reg ?_
       refine plain (y_loadAB rfl z_agg23 z_size23 rfl MM (q_ld_b32_0_32 (by first | assumption | exact Tree.hash_len _)) (q_len_b32 (by first | assumption | exact Tree.hash_len _))) rfl rfl rfl H414 ?_
       clear H414; intro a415 H415
       refine st_storeN rfl z_size23 rfl rfl (agg_cells _) UU q_one_b32 (q_len_b32 (by first | assumption | exact Tree.hash_len _)) (q_len_b32 (by first | assumption | exact Tree.hash_len _)) (q_spl_b32_0_b32 (by first | assumption | exact Tree.hash_len _) (by first | assumption | exact Tree.hash_len _)) (by decide) rfl rfl H415 ?_
       clear H415; intro wx416 H416
       refine plain (y_assign rfl rfl) rfl rfl rfl H416 ?_
       clear H416; intro a417 H417
       refine fin ?_
       refine then_n ?_
       refine wp_ret ?_
       -- return 30
       refine retct rfl H417 rfl z_agg23 z_size23 MM (q_len_b32 (by first | assumption | exact Tree.hash_len _)) rfl ?_
       have hz0 := Tree.mine_good hf2 hw2; rw [hz0]; refine ⟨_, _, rfl, ⟨(X ++ [(⟨(Tree.behind (Tree.bl X) its salt), A', c'⟩ : Inbox.BA)]), (.slice ArV (X.length + 1) crV), (.slice ArU (X.length + 1) crU), ⟨Tree.bl_app _ _, hX.app (Tree.Wfs.one hwB)⟩, rfl, rfl⟩, ?_⟩; rw [Tree.bc_append, Tree.bc_one, Tree.hs_one, hc_append, hc_one, List.length_append]; have hfz0 := (H417.front (is := [It.row 69 4 (.slice A' its.length c') its.length (Inbox.ic its), (Tree.It.fz X)]) (.cons PP (.cons PP (.nil _)))); simp only [List.cons_append, List.nil_append] at hfz0; have hfz := Tree.St.freeze (x := (⟨(Tree.behind (Tree.bl X) its salt), A', c'⟩ : Inbox.BA)) hfz0; exact (hfz.only (is := [It.row 26 35 (.slice ArV (X.length + 1) crV) (X.length + 1) (Inbox.bc X ++ Inbox.BA.cells (⟨(Tree.behind (Tree.bl X) its salt), A', c'⟩ : Inbox.BA)), It.row 23 32 (.slice ArU (X.length + 1) crU) (X.length + 1) (hc (Tree.hashes (Tree.bl X)) ++ (Tree.hash (Tree.behind (Tree.bl X) its salt)).1.map u8), It.blk c 77 [(.slice ArV (X.length + 1) crV), (.slice ArU (X.length + 1) crU), i64 dp, i64 de], (Tree.It.fz (X ++ [(⟨(Tree.behind (Tree.bl X) its salt), A', c'⟩ : Inbox.BA)]))]) (.cons PP (.cons PP (.cons PP (.cons PP (.nil _)))))).sep
      ·skip
       refine st_buildSlice rfl Tryd.underlying75 z_size23 z_zero23 rfl rfl rfl (lay_agg (agg_cells _) (by rw [List.length_map]; exact Tree.hash_len _) rfl) rfl rfl rfl H405 ?_
       clear H405; intro b418 a418 wx418 H418
       refine hfinA H418.sep ?_
       refine hgo 8 rfl (by kernel_rfl) ?_
       refine st_append rfl z_slice36 z_notint36 rfl rfl (fun _ => UU) (fun w hs => Src.slice ((rd_blkA MM) w hs) (Inbox.BA.cells_len (x := (⟨(Tree.behind (Tree.bl X) its salt), A', c'⟩ : Inbox.BA)) (Tree.hash_len _)) (Tree.ba_cell (⟨(Tree.behind (Tree.bl X) its salt), A', c'⟩ : Inbox.BA))) (by unfold maxLen at *; omega) (by omega) rfl rfl rfl H418 ?_
       clear H418; intro v419 a419 wx419 hnil419 H419
       obtain ⟨ArV, crV, hvrV, hRrV, hmrV⟩ := row_shape (v := v419) H419.sep MM
       subst hvrV
       refine hfinA H419.sep ?_
       refine hgo 15 rfl (by kernel_rfl) ?_
       refine st_append rfl z_slice75 z_notint75 rfl rfl (fun _ => UU) (fun w hs => Src.slice ((rd_blkA MM) w hs) (by rw [List.length_map]; exact Tree.hash_len _) (by intro q hq; obtain ⟨y, _, rfl⟩ := List.mem_map.1 hq; rfl)) (by unfold maxLen at *; omega) (by omega) rfl rfl rfl H419 ?_
       clear H419; intro v420 a420 wx420 hnil420 H420
       obtain ⟨ArU, crU, hvrU, hRrU, hmrU⟩ := row_shape (v := v420) H420.sep MM
       subst hvrU
       refine hfinA H420.sep ?_
       refine htake 16 rfl (by kernel_rfl) (y_nilCheck rfl rfl) rfl rfl rfl (fun _ h => h.subA) H420 ?_
       clear H420; intro a421 H421
       refine htake 17 rfl (by kernel_rfl) (y_fieldB rfl z_field77_0 rfl (by first | (simp only [Nat.zero_add, Nat.add_zero, Nat.reduceAdd]; rfl) | rfl)) rfl rfl rfl (fun _ h => h.subA) H421 ?_
       clear H421; intro a422 H422
       refine hgo 18 rfl (by kernel_rfl) ?_
       refine st_store1N rfl z_size36 rfl rfl rfl UU q_len_c4 q_set_c4_0 (by decide) rfl rfl H422 ?_
       clear H422; intro wx423 H423
       refine hfinA H423.sep ?_
       refine htake 19 rfl (by kernel_rfl) (y_nilCheck rfl rfl) rfl rfl rfl (fun _ h => h.subA) H423 ?_
       clear H423; intro a424 H424
       refine htake 20 rfl (by kernel_rfl) (y_fieldB rfl z_field77_1 rfl (by first | (simp only [Nat.zero_add, Nat.add_zero, Nat.reduceAdd]; rfl) | rfl)) rfl rfl rfl (fun _ h => h.subA) H424 ?_
       clear H424; intro a425 H425
       refine hgo 21 rfl (by kernel_rfl) ?_
       refine st_store1N rfl z_size75 rfl rfl rfl UU q_len_c4 q_set_c4_1 (by decide) rfl rfl H425 ?_
       clear H425; intro wx426 H426
       refine hfinA H426.sep ?_
       refine hdone (by kernel_rfl) ?_
       refine then_n ?_
       refine wp_seq ?_
       refine reg ?_
       refine plain (y_loadAB rfl z_agg23 z_size23 rfl MM (q_ld_b32_0_32 (by first | assumption | exact Tree.hash_len _)) (q_len_b32 (by first | assumption | exact Tree.hash_len _))) rfl rfl rfl H426 ?_
       clear H426; intro a427 H427
       refine st_storeN rfl z_size23 rfl rfl (agg_cells _) UU q_one_b32 (q_len_b32 (by first | assumption | exact Tree.hash_len _)) (q_len_b32 (by first | assumption | exact Tree.hash_len _)) (q_spl_b32_0_b32 (by first | assumption | exact Tree.hash_len _) (by first | assumption | exact Tree.hash_len _)) (by decide) rfl rfl H427 ?_
       clear H427; intro wx428 H428
       refine plain (y_assign rfl rfl) rfl rfl rfl H428 ?_
       clear H428; intro a429 H429
       refine fin ?_
       refine then_n ?_
       refine wp_ret ?_
       -- return 31
       refine retct rfl H429 rfl z_agg23 z_size23 MM (q_len_b32 (by first | assumption | exact Tree.hash_len _)) rfl ?_
       have hz0 := Tree.mine_good hf2 hw2; rw [hz0]; refine ⟨_, _, rfl, ⟨(X ++ [(⟨(Tree.behind (Tree.bl X) its salt), A', c'⟩ : Inbox.BA)]), (.slice ArV (X.length + 1) crV), (.slice ArU (X.length + 1) crU), ⟨Tree.bl_app _ _, hX.app (Tree.Wfs.one hwB)⟩, rfl, rfl⟩, ?_⟩; rw [Tree.bc_append, Tree.bc_one, Tree.hs_one, hc_append, hc_one, List.length_append]; have hfz0 := (H429.front (is := [It.row 69 4 (.slice A' its.length c') its.length (Inbox.ic its), (Tree.It.fz X)]) (.cons PP (.cons PP (.nil _)))); simp only [List.cons_append, List.nil_append] at hfz0; have hfz := Tree.St.freeze (x := (⟨(Tree.behind (Tree.bl X) its salt), A', c'⟩ : Inbox.BA)) hfz0; exact (hfz.only (is := [It.row 26 35 (.slice ArV (X.length + 1) crV) (X.length + 1) (Inbox.bc X ++ Inbox.BA.cells (⟨(Tree.behind (Tree.bl X) its salt), A', c'⟩ : Inbox.BA)), It.row 23 32 (.slice ArU (X.length + 1) crU) (X.length + 1) (hc (Tree.hashes (Tree.bl X)) ++ (Tree.hash (Tree.behind (Tree.bl X) its salt)).1.map u8), It.blk c 77 [(.slice ArV (X.length + 1) crV), (.slice ArU (X.length + 1) crU), i64 dp, i64 de], (Tree.It.fz (X ++ [(⟨(Tree.behind (Tree.bl X) its salt), A', c'⟩ : Inbox.BA)]))]) (.cons PP (.cons PP (.cons PP (.cons PP (.nil _)))))).sep
     ·skip
      refine st_buildSlice rfl Tryd.underlying75 z_size23 z_zero23 rfl rfl rfl (lay_agg (agg_cells _) (by rw [List.length_map]; exact Tree.hash_len _) rfl) rfl rfl rfl H404 ?_
      clear H404; intro b430 a430 wx430 H430
      refine hfinA H430.sep ?_
      refine hgo 5 rfl (by kernel_rfl) ?_
      refine plain (y_loadB rfl z_agg36 rfl MM q_ix_c4_0) rfl rfl rfl H430 ?_
      clear H430; intro a431 H431
      refine hfinA H431.sep ?_
      refine hgo 8 rfl (by kernel_rfl) ?_
      refine st_append rfl z_slice36 z_notint36 rfl rfl (fun _ => UU) (fun w hs => Src.slice ((rd_blkA MM) w hs) (Inbox.BA.cells_len (x := (⟨(Tree.behind (Tree.bl X) its salt), A', c'⟩ : Inbox.BA)) (Tree.hash_len _)) (Tree.ba_cell (⟨(Tree.behind (Tree.bl X) its salt), A', c'⟩ : Inbox.BA))) (by unfold maxLen at *; omega) (by omega) rfl rfl rfl H431 ?_
      clear H431; intro v432 a432 wx432 hnil432 H432
      obtain ⟨ArV, crV, hvrV, hRrV, hmrV⟩ := row_shape (v := v432) H432.sep MM
      subst hvrV
      refine hfinA H432.sep ?_
      refine hgo 15 rfl (by kernel_rfl) ?_
      refine st_append rfl z_slice75 z_notint75 rfl rfl (fun _ => UU) (fun w hs => Src.slice ((rd_blkA MM) w hs) (by rw [List.length_map]; exact Tree.hash_len _) (by intro q hq; obtain ⟨y, _, rfl⟩ := List.mem_map.1 hq; rfl)) (by unfold maxLen at *; omega) (by omega) rfl rfl rfl H432 ?_
      clear H432; intro v433 a433 wx433 hnil433 H433
      obtain ⟨ArU, crU, hvrU, hRrU, hmrU⟩ := row_shape (v := v433) H433.sep MM
      subst hvrU
      refine hfinA H433.sep ?_
      refine htake 16 rfl (by kernel_rfl) (y_nilCheck rfl rfl) rfl rfl rfl (fun _ h => h.subA) H433 ?_
      clear H433; intro a434 H434
      refine htake 17 rfl (by kernel_rfl) (y_fieldB rfl z_field77_0 rfl (by first | (simp only [Nat.zero_add, Nat.add_zero, Nat.reduceAdd]; rfl) | rfl)) rfl rfl rfl (fun _ h => h.subA) H434 ?_
      clear H434; intro a435 H435
      refine hgo 18 rfl (by kernel_rfl) ?_
      refine st_store1N rfl z_size36 rfl rfl rfl UU q_len_c4 q_set_c4_0 (by decide) rfl rfl H435 ?_
      clear H435; intro wx436 H436
      refine hfinA H436.sep ?_
      refine htake 19 rfl (by kernel_rfl) (y_nilCheck rfl rfl) rfl rfl rfl (fun _ h => h.subA) H436 ?_
      clear H436; intro a437 H437
      refine htake 20 rfl (by kernel_rfl) (y_fieldB rfl z_field77_1 rfl (by first | (simp only [Nat.zero_add, Nat.add_zero, Nat.reduceAdd]; rfl) | rfl)) rfl rfl rfl (fun _ h => h.subA) H437 ?_
      clear H437; intro a438 H438
      refine hgo 21 rfl (by kernel_rfl) ?_
      refine st_store1N rfl z_size75 rfl rfl rfl UU q_len_c4 q_set_c4_1 (by decide) rfl rfl H438 ?_
      clear H438; intro wx439 H439
      refine hfinA H439.sep ?_
      refine hdone (by kernel_rfl) ?_
      refine then_n ?_
      refine wp_seq ?_
      refine reg ?_
      refine plain (y_loadAB rfl z_agg23 z_size23 rfl MM (q_ld_b32_0_32 (by first | assumption | exact Tree.hash_len _)) (q_len_b32 (by first | assumption | exact Tree.hash_len _))) rfl rfl rfl H439 ?_
      clear H439; intro a440 H440
      refine st_storeN rfl z_size23 rfl rfl (agg_cells _) UU q_one_b32 (q_len_b32 (by first | assumption | exact Tree.hash_len _)) (q_len_b32 (by first | assumption | exact Tree.hash_len _)) (q_spl_b32_0_b32 (by first | assumption | exact Tree.hash_len _) (by first | assumption | exact Tree.hash_len _)) (by decide) rfl rfl H440 ?_
      clear H440; intro wx441 H441
      refine plain (y_assign rfl rfl) rfl rfl rfl H441 ?_
      clear H441; intro a442 H442
      refine fin ?_
      refine then_n ?_
      refine wp_ret ?_
      -- return 32
      refine retct rfl H442 rfl z_agg23 z_size23 MM (q_len_b32 (by first | assumption | exact Tree.hash_len _)) rfl ?_
      have hz0 := Tree.mine_good hf2 hw2; rw [hz0]; refine ⟨_, _, rfl, ⟨(X ++ [(⟨(Tree.behind (Tree.bl X) its salt), A', c'⟩ : Inbox.BA)]), (.slice ArV (X.length + 1) crV), (.slice ArU (X.length + 1) crU), ⟨Tree.bl_app _ _, hX.app (Tree.Wfs.one hwB)⟩, rfl, rfl⟩, ?_⟩; rw [Tree.bc_append, Tree.bc_one, Tree.hs_one, hc_append, hc_one, List.length_append]; have hfz0 := (H442.front (is := [It.row 69 4 (.slice A' its.length c') its.length (Inbox.ic its), (Tree.It.fz X)]) (.cons PP (.cons PP (.nil _)))); simp only [List.cons_append, List.nil_append] at hfz0; have hfz := Tree.St.freeze (x := (⟨(Tree.behind (Tree.bl X) its salt), A', c'⟩ : Inbox.BA)) hfz0; exact (hfz.only (is := [It.row 26 35 (.slice ArV (X.length + 1) crV) (X.length + 1) (Inbox.bc X ++ Inbox.BA.cells (⟨(Tree.behind (Tree.bl X) its salt), A', c'⟩ : Inbox.BA)), It.row 23 32 (.slice ArU (X.length + 1) crU) (X.length + 1) (hc (Tree.hashes (Tree.bl X)) ++ (Tree.hash (Tree.behind (Tree.bl X) its salt)).1.map u8), It.blk c 77 [(.slice ArV (X.length + 1) crV), (.slice ArU (X.length + 1) crU), i64 dp, i64 de], (Tree.It.fz (X ++ [(⟨(Tree.behind (Tree.bl X) its salt), A', c'⟩ : Inbox.BA)]))]) (.cons PP (.cons PP (.cons PP (.cons PP (.nil _)))))).sep
    ·skip
     refine st_buildSlice rfl Tryd.underlying75 z_size23 z_zero23 rfl rfl rfl (lay_agg (agg_cells _) (by rw [List.length_map]; exact Tree.hash_len _) rfl) rfl rfl rfl H364 ?_
     clear H364; intro b443 a443 wx443 H443
     refine hfinA H443.sep ?_
     refine hgo2 5 7 rfl rfl (by kernel_rfl) ?_ ?_
     ·skip
      refine plain (y_loadB rfl z_agg36 rfl MM q_ix_c4_0) rfl rfl rfl H443 ?_
      clear H443; intro a444 H444
      refine hfinA H444.sep ?_
      refine hgo 7 rfl (by kernel_rfl) ?_
      refine st_buildSlice rfl Tryd.underlying36 z_size26 z_zero26 rfl rfl rfl (lay_agg (agg_cells _) (Inbox.BA.cells_len (x := (⟨(Tree.behind (Tree.bl X) its salt), A', c'⟩ : Inbox.BA)) (Tree.hash_len _)) rfl) rfl rfl rfl H444 ?_
      clear H444; intro b445 a445 wx445 H445
      refine hfinA H445.sep ?_
      refine hgo 8 rfl (by kernel_rfl) ?_
      refine st_append rfl z_slice36 z_notint36 rfl rfl (fun _ => UU) (fun w hs => Src.slice ((rd_blkA MM) w hs) (Inbox.BA.cells_len (x := (⟨(Tree.behind (Tree.bl X) its salt), A', c'⟩ : Inbox.BA)) (Tree.hash_len _)) (Tree.ba_cell (⟨(Tree.behind (Tree.bl X) its salt), A', c'⟩ : Inbox.BA))) (by unfold maxLen at *; omega) (by omega) rfl rfl rfl H445 ?_
      clear H445; intro v446 a446 wx446 hnil446 H446
      obtain ⟨ArV, crV, hvrV, hRrV, hmrV⟩ := row_shape (v := v446) H446.sep MM
      subst hvrV
      refine hfinA H446.sep ?_
      refine hgo 15 rfl (by kernel_rfl) ?_
      refine st_append rfl z_slice75 z_notint75 rfl rfl (fun _ => UU) (fun w hs => Src.slice ((rd_blkA MM) w hs) (by rw [List.length_map]; exact Tree.hash_len _) (by intro q hq; obtain ⟨y, _, rfl⟩ := List.mem_map.1 hq; rfl)) (by unfold maxLen at *; omega) (by omega) rfl rfl rfl H446 ?_
      clear H446; intro v447 a447 wx447 hnil447 H447
      obtain ⟨ArU, crU, hvrU, hRrU, hmrU⟩ := row_shape (v := v447) H447.sep MM
      subst hvrU
      refine hfinA H447.sep ?_
      refine htake 16 rfl (by kernel_rfl) (y_nilCheck rfl rfl) rfl rfl rfl (fun _ h => h.subA) H447 ?_
      clear H447; intro a448 H448
      refine htake 17 rfl (by kernel_rfl) (y_fieldB rfl z_field77_0 rfl (by first | (simp only [Nat.zero_add, Nat.add_zero, Nat.reduceAdd]; rfl) | rfl)) rfl rfl rfl (fun _ h => h.subA) H448 ?_
      clear H448; intro a449 H449
      refine hgo 18 rfl (by kernel_rfl) ?_
      refine st_store1N rfl z_size36 rfl rfl rfl UU q_len_c4 q_set_c4_0 (by decide) rfl rfl H449 ?_
      clear H449; intro wx450 H450
      refine hfinA H450.sep ?_
      refine htake 19 rfl (by kernel_rfl) (y_nilCheck rfl rfl) rfl rfl rfl (fun _ h => h.subA) H450 ?_
      clear H450; intro a451 H451
      refine htake 20 rfl (by kernel_rfl) (y_fieldB rfl z_field77_1 rfl (by first | (simp only [Nat.zero_add, Nat.add_zero, Nat.reduceAdd]; rfl) | rfl)) rfl rfl rfl (fun _ h => h.subA) H451 ?_
      clear H451; intro a452 H452
      refine hgo 21 rfl (by kernel_rfl) ?_
      refine st_store1N rfl z_size75 rfl rfl rfl UU q_len_c4 q_set_c4_1 (by decide) rfl rfl H452 ?_
      clear H452; intro wx453 H453
      refine hfinA H453.sep ?_
      refine hdone (by kernel_rfl) ?_
      refine then_n ?_
      refine wp_seq ?_
      refine reg ?_
      refine plain (y_loadAB rfl z_agg23 z_size23 rfl MM (q_ld_b32_0_32 (by first | assumption | exact Tree.hash_len _)) (q_len_b32 (by first | assumption | exact Tree.hash_len _))) rfl rfl rfl H453 ?_
      clear H453; intro a454 H454
      refine st_storeN rfl z_size23 rfl rfl (agg_cells _) UU q_one_b32 (q_len_b32 (by first | assumption | exact Tree.hash_len _)) (q_len_b32 (by first | assumption | exact Tree.hash_len _)) (q_spl_b32_0_b32 (by first | assumption | exact Tree.hash_len _) (by first | assumption | exact Tree.hash_len _)) (by decide) rfl rfl H454 ?_
      clear H454; intro wx455 H455
      refine plain (y_assign rfl rfl) rfl rfl rfl H455 ?_
      clear H455; intro a456 H456
      refine fin ?_
      refine then_n ?_
      refine wp_ret ?_
      -- return 33
      refine retct rfl H456 rfl z_agg23 z_size23 MM (q_len_b32 (by first | assumption | exact Tree.hash_len _)) rfl ?_
      have hz0 := Tree.mine_good hf2 hw2; rw [hz0]; refine ⟨_, _, rfl, ⟨(X ++ [(⟨(Tree.behind (Tree.bl X) its salt), A', c'⟩ : Inbox.BA)]), (.slice ArV (X.length + 1) crV), (.slice ArU (X.length + 1) crU), ⟨Tree.bl_app _ _, hX.app (Tree.Wfs.one hwB)⟩, rfl, rfl⟩, ?_⟩; rw [Tree.bc_append, Tree.bc_one, Tree.hs_one, hc_append, hc_one, List.length_append]; have hfz0 := (H456.front (is := [It.row 69 4 (.slice A' its.length c') its.length (Inbox.ic its), (Tree.It.fz X)]) (.cons PP (.cons PP (.nil _)))); simp only [List.cons_append, List.nil_append] at hfz0; have hfz := Tree.St.freeze (x := (⟨(Tree.behind (Tree.bl X) its salt), A', c'⟩ : Inbox.BA)) hfz0; exact (hfz.only (is := [It.row 26 35 (.slice ArV (X.length + 1) crV) (X.length + 1) (Inbox.bc X ++ Inbox.BA.cells (⟨(Tree.behind (Tree.bl X) its salt), A', c'⟩ : Inbox.BA)), It.row 23 32 (.slice ArU (X.length + 1) crU) (X.length + 1) (hc (Tree.hashes (Tree.bl X)) ++ (Tree.hash (Tree.behind (Tree.bl X) its salt)).1.map u8), It.blk c 77 [(.slice ArV (X.length + 1) crV), (.slice ArU (X.length + 1) crU), i64 dp, i64 de], (Tree.It.fz (X ++ [(⟨(Tree.behind (Tree.bl X) its salt), A', c'⟩ : Inbox.BA)]))]) (.cons PP (.cons PP (.cons PP (.cons PP (.nil _)))))).sep
     ·skip
      refine st_buildSlice rfl Tryd.underlying36 z_size26 z_zero26 rfl rfl rfl (lay_agg (agg_cells _) (Inbox.BA.cells_len (x := (⟨(Tree.behind (Tree.bl X) its salt), A', c'⟩ : Inbox.BA)) (Tree.hash_len _)) rfl) rfl rfl rfl H443 ?_
      clear H443; intro b457 a457 wx457 H457
      refine hfinA H457.sep ?_
      refine hgo 5 rfl (by kernel_rfl) ?_
      refine plain (y_loadB rfl z_agg36 rfl MM q_ix_c4_0) rfl rfl rfl H457 ?_
      clear H457; intro a458 H458
      refine hfinA H458.sep ?_
      refine hgo 8 rfl (by kernel_rfl) ?_
      refine st_append rfl z_slice36 z_notint36 rfl rfl (fun _ => UU) (fun w hs => Src.slice ((rd_blkA MM) w hs) (Inbox.BA.cells_len (x := (⟨(Tree.behind (Tree.bl X) its salt), A', c'⟩ : Inbox.BA)) (Tree.hash_len _)) (Tree.ba_cell (⟨(Tree.behind (Tree.bl X) its salt), A', c'⟩ : Inbox.BA))) (by unfold maxLen at *; omega) (by omega) rfl rfl rfl H458 ?_
      clear H458; intro v459 a459 wx459 hnil459 H459
      obtain ⟨ArV, crV, hvrV, hRrV, hmrV⟩ := row_shape (v := v459) H459.sep MM
      subst hvrV
      refine hfinA H459.sep ?_
      refine hgo 15 rfl (by kernel_rfl) ?_
      refine st_append rfl z_slice75 z_notint75 rfl rfl (fun _ => UU) (fun w hs => Src.slice ((rd_blkA MM) w hs) (by rw [List.length_map]; exact Tree.hash_len _) (by intro q hq; obtain ⟨y, _, rfl⟩ := List.mem_map.1 hq; rfl)) (by unfold maxLen at *; omega) (by omega) rfl rfl rfl H459 ?_
      clear H459; intro v460 a460 wx460 hnil460 H460
      obtain ⟨ArU, crU, hvrU, hRrU, hmrU⟩ := row_shape (v := v460) H460.sep MM
      subst hvrU
      refine hfinA H460.sep ?_
      refine htake 16 rfl (by kernel_rfl) (y_nilCheck rfl rfl) rfl rfl rfl (fun _ h => h.subA) H460 ?_
      clear H460; intro a461 H461
      refine htake 17 rfl (by kernel_rfl) (y_fieldB rfl z_field77_0 rfl (by first | (simp only [Nat.zero_add, Nat.add_zero, Nat.reduceAdd]; rfl) | rfl)) rfl rfl rfl (fun _ h => h.subA) H461 ?_
      clear H461; intro a462 H462
      refine hgo 18 rfl (by kernel_rfl) ?_
      refine st_store1N rfl z_size36 rfl rfl rfl UU q_len_c4 q_set_c4_0 (by decide) rfl rfl H462 ?_
      clear H462; intro wx463 H463
      refine hfinA H463.sep ?_
      refine htake 19 rfl (by kernel_rfl) (y_nilCheck rfl rfl) rfl rfl rfl (fun _ h => h.subA) H463 ?_
      clear H463; intro a464 H464
      refine htake 20 rfl (by kernel_rfl) (y_fieldB rfl z_field77_1 rfl (by first | (simp only [Nat.zero_add, Nat.add_zero, Nat.reduceAdd]; rfl) | rfl)) rfl rfl rfl (fun _ h => h.subA) H464 ?_
      clear H464; intro a465 H465
      refine hgo 21 rfl (by kernel_rfl) ?_
      refine st_store1N rfl z_size75 rfl rfl rfl UU q_len_c4 q_set_c4_1 (by decide) rfl rfl H465 ?_
      clear H465; intro wx466 H466
      refine hfinA H466.sep ?_
      refine hdone (by kernel_rfl) ?_
      refine then_n ?_
      refine wp_seq ?_
      refine reg ?_
      refine plain (y_loadAB rfl z_agg23 z_size23 rfl MM (q_ld_b32_0_32 (by first | assumption | exact Tree.hash_len _)) (q_len_b32 (by first | assumption | exact Tree.hash_len _))) rfl rfl rfl H466 ?_
      clear H466; intro a467 H467
      refine st_storeN rfl z_size23 rfl rfl (agg_cells _) UU q_one_b32 (q_len_b32 (by first | assumption | exact Tree.hash_len _)) (q_len_b32 (by first | assumption | exact Tree.hash_len _)) (q_spl_b32_0_b32 (by first | assumption | exact Tree.hash_len _) (by first | assumption | exact Tree.hash_len _)) (by decide) rfl rfl H467 ?_
      clear H467; intro wx468 H468
      refine plain (y_assign rfl rfl) rfl rfl rfl H468 ?_
      clear H468; intro a469 H469
      refine fin ?_
      refine then_n ?_
      refine wp_ret ?_
      -- return 34
      refine retct rfl H469 rfl z_agg23 z_size23 MM (q_len_b32 (by first | assumption | exact Tree.hash_len _)) rfl ?_
      have hz0 := Tree.mine_good hf2 hw2; rw [hz0]; refine ⟨_, _, rfl, ⟨(X ++ [(⟨(Tree.behind (Tree.bl X) its salt), A', c'⟩ : Inbox.BA)]), (.slice ArV (X.length + 1) crV), (.slice ArU (X.length + 1) crU), ⟨Tree.bl_app _ _, hX.app (Tree.Wfs.one hwB)⟩, rfl, rfl⟩, ?_⟩; rw [Tree.bc_append, Tree.bc_one, Tree.hs_one, hc_append, hc_one, List.length_append]; have hfz0 := (H469.front (is := [It.row 69 4 (.slice A' its.length c') its.length (Inbox.ic its), (Tree.It.fz X)]) (.cons PP (.cons PP (.nil _)))); simp only [List.cons_append, List.nil_append] at hfz0; have hfz := Tree.St.freeze (x := (⟨(Tree.behind (Tree.bl X) its salt), A', c'⟩ : Inbox.BA)) hfz0; exact (hfz.only (is := [It.row 26 35 (.slice ArV (X.length + 1) crV) (X.length + 1) (Inbox.bc X ++ Inbox.BA.cells (⟨(Tree.behind (Tree.bl X) its salt), A', c'⟩ : Inbox.BA)), It.row 23 32 (.slice ArU (X.length + 1) crU) (X.length + 1) (hc (Tree.hashes (Tree.bl X)) ++ (Tree.hash (Tree.behind (Tree.bl X) its salt)).1.map u8), It.blk c 77 [(.slice ArV (X.length + 1) crV), (.slice ArU (X.length + 1) crU), i64 dp, i64 de], (Tree.It.fz (X ++ [(⟨(Tree.behind (Tree.bl X) its salt), A', c'⟩ : Inbox.BA)]))]) (.cons PP (.cons PP (.cons PP (.cons PP (.nil _)))))).sep
   ·skip
    refine st_buildSlice rfl Tryd.underlying75 z_size23 z_zero23 rfl rfl rfl (lay_agg (agg_cells _) (by rw [List.length_map]; exact Tree.hash_len _) rfl) rfl rfl rfl H53 ?_
    clear H53; intro b470 a470 wx470 H470
    refine hfinA H470.sep ?_
    refine hgo3 5 7 12 rfl rfl rfl (by kernel_rfl) ?_ ?_ ?_
    ·skip
     refine plain (y_loadB rfl z_agg36 rfl MM q_ix_c4_0) rfl rfl rfl H470 ?_
     clear H470; intro a471 H471
     refine hfinA H471.sep ?_
     refine hgo2 7 12 rfl rfl (by kernel_rfl) ?_ ?_
     ·skip
      refine st_buildSlice rfl Tryd.underlying36 z_size26 z_zero26 rfl rfl rfl (lay_agg (agg_cells _) (Inbox.BA.cells_len (x := (⟨(Tree.behind (Tree.bl X) its salt), A', c'⟩ : Inbox.BA)) (Tree.hash_len _)) rfl) rfl rfl rfl H471 ?_
      clear H471; intro b472 a472 wx472 H472
      refine hfinA H472.sep ?_
      refine hgo2 8 12 rfl rfl (by kernel_rfl) ?_ ?_
      ·skip
       refine st_append rfl z_slice36 z_notint36 rfl rfl (fun _ => UU) (fun w hs => Src.slice ((rd_blkA MM) w hs) (Inbox.BA.cells_len (x := (⟨(Tree.behind (Tree.bl X) its salt), A', c'⟩ : Inbox.BA)) (Tree.hash_len _)) (Tree.ba_cell (⟨(Tree.behind (Tree.bl X) its salt), A', c'⟩ : Inbox.BA))) (by unfold maxLen at *; omega) (by omega) rfl rfl rfl H472 ?_
       clear H472; intro v473 a473 wx473 hnil473 H473
       obtain ⟨ArV, crV, hvrV, hRrV, hmrV⟩ := row_shape (v := v473) H473.sep MM
       subst hvrV
       refine hfinA H473.sep ?_
       refine hgo 12 rfl (by kernel_rfl) ?_
       refine plain (y_loadB rfl z_agg75 rfl MM q_ix_c4_1) rfl rfl rfl H473 ?_
       clear H473; intro a474 H474
       refine hfinA H474.sep ?_
       refine hgo 15 rfl (by kernel_rfl) ?_
       refine st_append rfl z_slice75 z_notint75 rfl rfl (fun _ => UU) (fun w hs => Src.slice ((rd_blkA MM) w hs) (by rw [List.length_map]; exact Tree.hash_len _) (by intro q hq; obtain ⟨y, _, rfl⟩ := List.mem_map.1 hq; rfl)) (by unfold maxLen at *; omega) (by omega) rfl rfl rfl H474 ?_
       clear H474; intro v475 a475 wx475 hnil475 H475
       obtain ⟨ArU, crU, hvrU, hRrU, hmrU⟩ := row_shape (v := v475) H475.sep MM
       subst hvrU
       refine hfinA H475.sep ?_
       refine htake 16 rfl (by kernel_rfl) (y_nilCheck rfl rfl) rfl rfl rfl (fun _ h => h.subA) H475 ?_
       clear H475; intro a476 H476
       refine htake 17 rfl (by kernel_rfl) (y_fieldB rfl z_field77_0 rfl (by first | (simp only [Nat.zero_add, Nat.add_zero, Nat.reduceAdd]; rfl) | rfl)) rfl rfl rfl (fun _ h => h.subA) H476 ?_
       clear H476; intro a477 H477
       refine hgo 18 rfl (by kernel_rfl) ?_
       refine st_store1N rfl z_size36 rfl rfl rfl UU q_len_c4 q_set_c4_0 (by decide) rfl rfl H477 ?_
       clear H477; intro wx478 H478
       refine hfinA H478.sep ?_
       refine htake 19 rfl (by kernel_rfl) (y_nilCheck rfl rfl) rfl rfl rfl (fun _ h => h.subA) H478 ?_
       clear H478; intro a479 H479
       refine htake 20 rfl (by kernel_rfl) (y_fieldB rfl z_field77_1 rfl (by first | (simp only [Nat.zero_add, Nat.add_zero, Nat.reduceAdd]; rfl) | rfl)) rfl rfl rfl (fun _ h => h.subA) H479 ?_
       clear H479; intro a480 H480
       refine hgo 21 rfl (by kernel_rfl) ?_
       refine st_store1N rfl z_size75 rfl rfl rfl UU q_len_c4 q_set_c4_1 (by decide) rfl rfl H480 ?_
       clear H480; intro wx481 H481
       refine hfinA H481.sep ?_
       refine hdone (by kernel_rfl) ?_
       refine then_n ?_
       refine wp_seq ?_
       refine reg ?_
       refine plain (y_loadAB rfl z_agg23 z_size23 rfl MM (q_ld_b32_0_32 (by first | assumption | exact Tree.hash_len _)) (q_len_b32 (by first | assumption | exact Tree.hash_len _))) rfl rfl rfl H481 ?_
       clear H481; intro a482 H482
       refine st_storeN rfl z_size23 rfl rfl (agg_cells _) UU q_one_b32 (q_len_b32 (by first | assumption | exact Tree.hash_len _)) (q_len_b32 (by first | assumption | exact Tree.hash_len _)) (q_spl_b32_0_b32 (by first | assumption | exact Tree.hash_len _) (by first | assumption | exact Tree.hash_len _)) (by decide) rfl rfl H482 ?_
       clear H482; intro wx483 H483
       refine plain (y_assign rfl rfl) rfl rfl rfl H483 ?_
       clear H483; intro a484 H484
       refine fin ?_
       refine then_n ?_
       refine wp_ret ?_
       -- return 35
       refine retct rfl H484 rfl z_agg23 z_size23 MM (q_len_b32 (by first | assumption | exact Tree.hash_len _)) rfl ?_
       have hz0 := Tree.mine_good hf2 hw2; rw [hz0]; refine ⟨_, _, rfl, ⟨(X ++ [(⟨(Tree.behind (Tree.bl X) its salt), A', c'⟩ : Inbox.BA)]), (.slice ArV (X.length + 1) crV), (.slice ArU (X.length + 1) crU), ⟨Tree.bl_app _ _, hX.app (Tree.Wfs.one hwB)⟩, rfl, rfl⟩, ?_⟩; rw [Tree.bc_append, Tree.bc_one, Tree.hs_one, hc_append, hc_one, List.length_append]; have hfz0 := (H484.front (is := [It.row 69 4 (.slice A' its.length c') its.length (Inbox.ic its), (Tree.It.fz X)]) (.cons PP (.cons PP (.nil _)))); simp only [List.cons_append, List.nil_append] at hfz0; have hfz := Tree.St.freeze (x := (⟨(Tree.behind (Tree.bl X) its salt), A', c'⟩ : Inbox.BA)) hfz0; exact (hfz.only (is := [It.row 26 35 (.slice ArV (X.length + 1) crV) (X.length + 1) (Inbox.bc X ++ Inbox.BA.cells (⟨(Tree.behind (Tree.bl X) its salt), A', c'⟩ : Inbox.BA)), It.row 23 32 (.slice ArU (X.length + 1) crU) (X.length + 1) (hc (Tree.hashes (Tree.bl X)) ++ (Tree.hash (Tree.behind (Tree.bl X) its salt)).1.map u8), It.blk c 77 [(.slice ArV (X.length + 1) crV), (.slice ArU (X.length + 1) crU), i64 dp, i64 de], (Tree.It.fz (X ++ [(⟨(Tree.behind (Tree.bl X) its salt), A', c'⟩ : Inbox.BA)]))]) (.cons PP (.cons PP (.cons PP (.cons PP (.nil _)))))).sep
      ·skip
       refine plain (y_loadB rfl z_agg75 rfl MM q_ix_c4_1) rfl rfl rfl H472 ?_
       clear H472; intro a485 H485
       refine hfinA H485.sep ?_
       refine hgo 8 rfl (by kernel_rfl) ?_
       refine st_append rfl z_slice36 z_notint36 rfl rfl (fun _ => UU) (fun w hs => Src.slice ((rd_blkA MM) w hs) (Inbox.BA.cells_len (x := (⟨(Tree.behind (Tree.bl X) its salt), A', c'⟩ : Inbox.BA)) (Tree.hash_len _)) (Tree.ba_cell (⟨(Tree.behind (Tree.bl X) its salt), A', c'⟩ : Inbox.BA))) (by unfold maxLen at *; omega) (by omega) rfl rfl rfl H485 ?_
       clear H485; intro v486 a486 wx486 hnil486 H486
       obtain ⟨ArV, crV, hvrV, hRrV, hmrV⟩ := row_shape (v := v486) H486.sep MM
       subst hvrV
       refine hfinA H486.sep ?_
       refine hgo 15 rfl (by kernel_rfl) ?_
       refine st_append rfl z_slice75 z_notint75 rfl rfl (fun _ => UU) (fun w hs => Src.slice ((rd_blkA MM) w hs) (by rw [List.length_map]; exact Tree.hash_len _) (by intro q hq; obtain ⟨y, _, rfl⟩ := List.mem_map.1 hq; rfl)) (by unfold maxLen at *; omega) (by omega) rfl rfl rfl H486 ?_
       clear H486; intro v487 a487 wx487 hnil487 H487
       obtain ⟨ArU, crU, hvrU, hRrU, hmrU⟩ := row_shape (v := v487) H487.sep MM
       subst hvrU
       refine hfinA H487.sep ?_
       refine htake 16 rfl (by kernel_rfl) (y_nilCheck rfl rfl) rfl rfl rfl (fun _ h => h.subA) H487 ?_
       clear H487; intro a488 H488
       refine htake 17 rfl (by kernel_rfl) (y_fieldB rfl z_field77_0 rfl (by first | (simp only [Nat.zero_add, Nat.add_zero, Nat.reduceAdd]; rfl) | rfl)) rfl rfl rfl (fun _ h => h.subA) H488 ?_
       clear H488; intro a489 H489
       refine hgo 18 rfl (by kernel_rfl) ?_
       refine st_store1N rfl z_size36 rfl rfl rfl UU q_len_c4 q_set_c4_0 (by decide) rfl rfl H489 ?_
       clear H489; intro wx490 H490
       refine hfinA H490.sep ?_
       refine htake 19 rfl (by kernel_rfl) (y_nilCheck rfl rfl) rfl rfl rfl (fun _ h => h.subA) H490 ?_
       clear H490; intro a491 H491
       refine htake 20 rfl (by kernel_rfl) (y_fieldB rfl z_field77_1 rfl (by first | (simp only [Nat.zero_add, Nat.add_zero, Nat.reduceAdd]; rfl) | rfl)) rfl rfl rfl (fun _ h => h.subA) H491 ?_
       clear H491; intro a492 H492
       refine hgo 21 rfl (by kernel_rfl) ?_
       refine st_store1N rfl z_size75 rfl rfl rfl UU q_len_c4 q_set_c4_1 (by decide) rfl rfl H492 ?_
       clear H492; intro wx493 H493
       refine hfinA H493.sep ?_
       refine hdone (by kernel_rfl) ?_
       refine then_n ?_
       refine wp_seq ?_
       refine reg ?_
       refine plain (y_loadAB rfl z_agg23 z_size23 rfl MM (q_ld_b32_0_32 (by first | assumption | exact Tree.hash_len _)) (q_len_b32 (by first | assumption | exact Tree.hash_len _))) rfl rfl rfl H493 ?_
       clear H493; intro a494 H494
       refine st_storeN rfl z_size23 rfl rfl (agg_cells _) UU q_one_b32 (q_len_b32 (by first | assumption | exact Tree.hash_len _)) (q_len_b32 (by first | assumption | exact Tree.hash_len _)) (q_spl_b32_0_b32 (by first | assumption | exact Tree.hash_len _) (by first | assumption | exact Tree.hash_len _)) (by decide) rfl rfl H494 ?_
       clear H494; intro wx495 H495
       refine plain (y_assign rfl rfl) rfl rfl rfl H495 ?_
       clear H495; intro a496 H496
       refine fin ?_
       refine then_n ?_
       refine wp_ret ?_
       -- return 36
       refine retct rfl H496 rfl z_agg23 z_size23 MM (q_len_b32 (by first | assumption | exact Tree.hash_len _)) rfl ?_
       have hz0 := Tree.mine_good hf2 hw2; rw [hz0]; refine ⟨_, _, rfl, ⟨(X ++ [(⟨(Tree.behind (Tree.bl X) its salt), A', c'⟩ : Inbox.BA)]), (.slice ArV (X.length + 1) crV), (.slice ArU (X.length + 1) crU), ⟨Tree.bl_app _ _, hX.app (Tree.Wfs.one hwB)⟩, rfl, rfl⟩, ?_⟩; rw [Tree.bc_append, Tree.bc_one, Tree.hs_one, hc_append, hc_one, List.length_append]; have hfz0 := (H496.front (is := [It.row 69 4 (.slice A' its.length c') its.length (Inbox.ic its), (Tree.It.fz X)]) (.cons PP (.cons PP (.nil _)))); simp only [List.cons_append, List.nil_append] at hfz0; have hfz := Tree.St.freeze (x := (⟨(Tree.behind (Tree.bl X) its salt), A', c'⟩ : Inbox.BA)) hfz0; exact (hfz.only (is := [It.row 26 35 (.slice ArV (X.length + 1) crV) (X.length + 1) (Inbox.bc X ++ Inbox.BA.cells (⟨(Tree.behind (Tree.bl X) its salt), A', c'⟩ : Inbox.BA)), It.row 23 32 (.slice ArU (X.length + 1) crU) (X.length + 1) (hc (Tree.hashes (Tree.bl X)) ++ (Tree.hash (Tree.behind (Tree.bl X) its salt)).1.map u8), It.blk c 77 [(.slice ArV (X.length + 1) crV), (.slice ArU (X.length + 1) crU), i64 dp, i64 de], (Tree.It.fz (X ++ [(⟨(Tree.behind (Tree.bl X) its salt), A', c'⟩ : Inbox.BA)]))]) (.cons PP (.cons PP (.cons PP (.cons PP (.nil _)))))).sep
     ·skip
      refine plain (y_loadB rfl z_agg75 rfl MM q_ix_c4_1) rfl rfl rfl H471 ?_
      clear H471; intro a497 H497
      refine hfinA H497.sep ?_
      refine hgo 7 rfl (by kernel_rfl) ?_
      refine st_buildSlice rfl Tryd.underlying36 z_size26 z_zero26 rfl rfl rfl (lay_agg (agg_cells _) (Inbox.BA.cells_len (x := (⟨(Tree.behind (Tree.bl X) its salt), A', c'⟩ : Inbox.BA)) (Tree.hash_len _)) rfl) rfl rfl rfl H497 ?_
      clear H497; intro b498 a498 wx498 H498
      refine hfinA H498.sep ?_
      refine hgo 8 rfl (by kernel_rfl) ?_
      refine st_append rfl z_slice36 z_notint36 rfl rfl (fun _ => UU) (fun w hs => Src.slice ((rd_blkA MM) w hs) (Inbox.BA.cells_len (x := (⟨(Tree.behind (Tree.bl X) its salt), A', c'⟩ : Inbox.BA)) (Tree.hash_len _)) (Tree.ba_cell (⟨(Tree.behind (Tree.bl X) its salt), A', c'⟩ : Inbox.BA))) (by unfold maxLen at *; omega) (by omega) rfl rfl rfl H498 ?_
      clear H498; intro v499 a499 wx499 hnil499 H499
      obtain ⟨ArV, crV, hvrV, hRrV, hmrV⟩ := row_shape (v := v499) H499.sep MM
      subst hvrV
      refine hfinA H499.sep ?_
      refine hgo 15 rfl (by kernel_rfl) ?_
      refine st_append rfl z_slice75 z_notint75 rfl rfl (fun _ => UU) (fun w hs => Src.slice ((rd_blkA MM) w hs) (by rw [List.length_map]; exact Tree.hash_len _) (by intro q hq; obtain ⟨y, _, rfl⟩ := List.mem_map.1 hq; rfl)) (by unfold maxLen at *; omega) (by omega) rfl rfl rfl H499 ?_
      clear H499; intro v500 a500 wx500 hnil500 H500
      obtain ⟨ArU, crU, hvrU, hRrU, hmrU⟩ := row_shape (v := v500) H500.sep MM
      subst hvrU
      refine hfinA H500.sep ?_
      refine htake 16 rfl (by kernel_rfl) (y_nilCheck rfl rfl) rfl rfl rfl (fun _ h => h.subA) H500 ?_
      clear H500; intro a501 H501
      refine htake 17 rfl (by kernel_rfl) (y_fieldB rfl z_field77_0 rfl (by first | (simp only [Nat.zero_add, Nat.add_zero, Nat.reduceAdd]; rfl) | rfl)) rfl rfl rfl (fun _ h => h.subA) H501 ?_
      clear H501; intro a502 H502
      refine hgo 18 rfl (by kernel_rfl) ?_
      refine st_store1N rfl z_size36 rfl rfl rfl UU q_len_c4 q_set_c4_0 (by decide) rfl rfl H502 ?_
      clear H502; intro wx503 H503
      refine hfinA H503.sep ?_
      refine htake 19 rfl (by kernel_rfl) (y_nilCheck rfl rfl) rfl rfl rfl (fun _ h => h.subA) H503 ?_
      clear H503; intro a504 H504
      refine htake 20 rfl (by kernel_rfl) (y_fieldB rfl z_field77_1 rfl (by first | (simp only [Nat.zero_add, Nat.add_zero, Nat.reduceAdd]; rfl) | rfl)) rfl rfl rfl (fun _ h => h.subA) H504 ?_
      clear H504; intro a505 H505
      refine hgo 21 rfl (by kernel_rfl) ?_
      refine st_store1N rfl z_size75 rfl rfl rfl UU q_len_c4 q_set_c4_1 (by decide) rfl rfl H505 ?_
      clear H505; intro wx506 H506
      refine hfinA H506.sep ?_
      refine hdone (by kernel_rfl) ?_
      refine then_n ?_
      refine wp_seq ?_
      refine reg ?_
      refine plain (y_loadAB rfl z_agg23 z_size23 rfl MM (q_ld_b32_0_32 (by first | assumption | exact Tree.hash_len _)) (q_len_b32 (by first | assumption | exact Tree.hash_len _))) rfl rfl rfl H506 ?_
      clear H506; intro a507 H507
      refine st_storeN rfl z_size23 rfl rfl (agg_cells _) UU q_one_b32 (q_len_b32 (by first | assumption | exact Tree.hash_len _)) (q_len_b32 (by first | assumption | exact Tree.hash_len _)) (q_spl_b32_0_b32 (by first | assumption | exact Tree.hash_len _) (by first | assumption | exact Tree.hash_len _)) (by decide) rfl rfl H507 ?_
      clear H507; intro wx508 H508
      refine plain (y_assign rfl rfl) rfl rfl rfl H508 ?_
      clear H508; intro a509 H509
      refine fin ?_
      refine then_n ?_
      refine wp_ret ?_
      -- return 37
      refine retct rfl H509 rfl z_agg23 z_size23 MM (q_len_b32 (by first | assumption | exact Tree.hash_len _)) rfl ?_
      have hz0 := Tree.mine_good hf2 hw2; rw [hz0]; refine ⟨_, _, rfl, ⟨(X ++ [(⟨(Tree.behind (Tree.bl X) its salt), A', c'⟩ : Inbox.BA)]), (.slice ArV (X.length + 1) crV), (.slice ArU (X.length + 1) crU), ⟨Tree.bl_app _ _, hX.app (Tree.Wfs.one hwB)⟩, rfl, rfl⟩, ?_⟩; rw [Tree.bc_append, Tree.bc_one, Tree.hs_one, hc_append, hc_one, List.length_append]; have hfz0 := (H509.front (is := [It.row 69 4 (.slice A' its.length c') its.length (Inbox.ic its), (Tree.It.fz X)]) (.cons PP (.cons PP (.nil _)))); simp only [List.cons_append, List.nil_append] at hfz0; have hfz := Tree.St.freeze (x := (⟨(Tree.behind (Tree.bl X) its salt), A', c'⟩ : Inbox.BA)) hfz0; exact (hfz.only (is := [It.row 26 35 (.slice ArV (X.length + 1) crV) (X.length + 1) (Inbox.bc X ++ Inbox.BA.cells (⟨(Tree.behind (Tree.bl X) its salt), A', c'⟩ : Inbox.BA)), It.row 23 32 (.slice ArU (X.length + 1) crU) (X.length + 1) (hc (Tree.hashes (Tree.bl X)) ++ (Tree.hash (Tree.behind (Tree.bl X) its salt)).1.map u8), It.blk c 77 [(.slice ArV (X.length + 1) crV), (.slice ArU (X.length + 1) crU), i64 dp, i64 de], (Tree.It.fz (X ++ [(⟨(Tree.behind (Tree.bl X) its salt), A', c'⟩ : Inbox.BA)]))]) (.cons PP (.cons PP (.cons PP (.cons PP (.nil _)))))).sep
    ·skip
     refine st_buildSlice rfl Tryd.underlying36 z_size26 z_zero26 rfl rfl rfl (lay_agg (agg_cells _) (Inbox.BA.cells_len (x := (⟨(Tree.behind (Tree.bl X) its salt), A', c'⟩ : Inbox.BA)) (Tree.hash_len _)) rfl) rfl rfl rfl H470 ?_
     clear H470; intro b510 a510 wx510 H510
     refine hfinA H510.sep ?_
     refine hgo2 5 12 rfl rfl (by kernel_rfl) ?_ ?_
     ·skip
      refine plain (y_loadB rfl z_agg36 rfl MM q_ix_c4_0) rfl rfl rfl H510 ?_
      clear H510; intro a511 H511
      refine hfinA H511.sep ?_
      refine hgo2 8 12 rfl rfl (by kernel_rfl) ?_ ?_
      ·skip
       refine st_append rfl z_slice36 z_notint36 rfl rfl (fun _ => UU) (fun w hs => Src.slice ((rd_blkA MM) w hs) (Inbox.BA.cells_len (x := (⟨(Tree.behind (Tree.bl X) its salt), A', c'⟩ : Inbox.BA)) (Tree.hash_len _)) (Tree.ba_cell (⟨(Tree.behind (Tree.bl X) its salt), A', c'⟩ : Inbox.BA))) (by unfold maxLen at *; omega) (by omega) rfl rfl rfl H511 ?_
       clear H511; intro v512 a512 wx512 hnil512 H512
       obtain ⟨ArV, crV, hvrV, hRrV, hmrV⟩ := row_shape (v := v512) H512.sep MM
       subst hvrV
       refine hfinA H512.sep ?_
       refine hgo 12 rfl (by kernel_rfl) ?_
       refine plain (y_loadB rfl z_agg75 rfl MM q_ix_c4_1) rfl rfl rfl H512 ?_
       clear H512; intro a513 H513
       refine hfinA H513.sep ?_
       refine hgo 15 rfl (by kernel_rfl) ?_
       refine st_append rfl z_slice75 z_notint75 rfl rfl (fun _ => UU) (fun w hs => Src.slice ((rd_blkA MM) w hs) (by rw [List.length_map]; exact Tree.hash_len _) (by intro q hq; obtain ⟨y, _, rfl⟩ := List.mem_map.1 hq; rfl)) (by unfold maxLen at *; omega) (by omega) rfl rfl rfl H513 ?_
       clear H513; intro v514 a514 wx514 hnil514 H514
       obtain ⟨ArU, crU, hvrU, hRrU, hmrU⟩ := row_shape (v := v514) H514.sep MM
       subst hvrU
       refine hfinA H514.sep ?_
       refine htake 16 rfl (by kernel_rfl) (y_nilCheck rfl rfl) rfl rfl rfl (fun _ h => h.subA) H514 ?_
       clear H514; intro a515 H515
       refine htake 17 rfl (by kernel_rfl) (y_fieldB rfl z_field77_0 rfl (by first | (simp only [Nat.zero_add, Nat.add_zero, Nat.reduceAdd]; rfl) | rfl)) rfl rfl rfl (fun _ h => h.subA) H515 ?_
       clear H515; intro a516 H516
       refine hgo 18 rfl (by kernel_rfl) ?_
       refine st_store1N rfl z_size36 rfl rfl rfl UU q_len_c4 q_set_c4_0 (by decide) rfl rfl H516 ?_
       clear H516; intro wx517 H517
       refine hfinA H517.sep ?_
       refine htake 19 rfl (by kernel_rfl) (y_nilCheck rfl rfl) rfl rfl rfl (fun _ h => h.subA) H517 ?_
       clear H517; intro a518 H518
       refine htake 20 rfl (by kernel_rfl) (y_fieldB rfl z_field77_1 rfl (by first | (simp only [Nat.zero_add, Nat.add_zero, Nat.reduceAdd]; rfl) | rfl)) rfl rfl rfl (fun _ h => h.subA) H518 ?_
       clear H518; intro a519 H519
       refine hgo 21 rfl (by kernel_rfl) ?_
       refine st_store1N rfl z_size75 rfl rfl rfl UU q_len_c4 q_set_c4_1 (by decide) rfl rfl H519 ?_
       clear H519; intro wx520 H520
       refine hfinA H520.sep ?_
       refine hdone (by kernel_rfl) ?_
       refine then_n ?_
       refine wp_seq ?_
       refine reg ?_
       refine plain (y_loadAB rfl z_agg23 z_size23 rfl MM (q_ld_b32_0_32 (by first | assumption | exact Tree.hash_len _)) (q_len_b32 (by first | assumption | exact Tree.hash_len _))) rfl rfl rfl H520 ?_
       clear H520; intro a521 H521
       refine st_storeN rfl z_size23 rfl rfl (agg_cells _) UU q_one_b32 (q_len_b32 (by first | assumption | exact Tree.hash_len _)) (q_len_b32 (by first | assumption | exact Tree.hash_len _)) (q_spl_b32_0_b32 (by first | assumption | exact Tree.hash_len _) (by first | assumption | exact Tree.hash_len _)) (by decide) rfl rfl H521 ?_
       clear H521; intro wx522 H522
       refine plain (y_assign rfl rfl) rfl rfl rfl H522 ?_
       clear H522; intro a523 H523
       refine fin ?_
       refine then_n ?_
       refine wp_ret ?_
       -- return 38
       refine retct rfl H523 rfl z_agg23 z_size23 MM (q_len_b32 (by first | assumption | exact Tree.hash_len _)) rfl ?_
       have hz0 := Tree.mine_good hf2 hw2; rw [hz0]; refine ⟨_, _, rfl, ⟨(X ++ [(⟨(Tree.behind (Tree.bl X) its salt), A', c'⟩ : Inbox.BA)]), (.slice ArV (X.length + 1) crV), (.slice ArU (X.length + 1) crU), ⟨Tree.bl_app _ _, hX.app (Tree.Wfs.one hwB)⟩, rfl, rfl⟩, ?_⟩; rw [Tree.bc_append, Tree.bc_one, Tree.hs_one, hc_append, hc_one, List.length_append]; have hfz0 := (H523.front (is := [It.row 69 4 (.slice A' its.length c') its.length (Inbox.ic its), (Tree.It.fz X)]) (.cons PP (.cons PP (.nil _)))); simp only [List.cons_append, List.nil_append] at hfz0; have hfz := Tree.St.freeze (x := (⟨(Tree.behind (Tree.bl X) its salt), A', c'⟩ : Inbox.BA)) hfz0; exact (hfz.only (is := [It.row 26 35 (.slice ArV (X.length + 1) crV) (X.length + 1) (Inbox.bc X ++ Inbox.BA.cells (⟨(Tree.behind (Tree.bl X) its salt), A', c'⟩ : Inbox.BA)), It.row 23 32 (.slice ArU (X.length + 1) crU) (X.length + 1) (hc (Tree.hashes (Tree.bl X)) ++ (Tree.hash (Tree.behind (Tree.bl X) its salt)).1.map u8), It.blk c 77 [(.slice ArV (X.length + 1) crV), (.slice ArU (X.length + 1) crU), i64 dp, i64 de], (Tree.It.fz (X ++ [(⟨(Tree.behind (Tree.bl X) its salt), A', c'⟩ : Inbox.BA)]))]) (.cons PP (.cons PP (.cons PP (.cons PP (.nil _)))))).sep
      ·skip
       refine plain (y_loadB rfl z_agg75 rfl MM q_ix_c4_1) rfl rfl rfl H511 ?_
       clear H511; intro a524 H524
       refine hfinA H524.sep ?_
       refine hgo 8 rfl (by kernel_rfl) ?_
       refine st_append rfl z_slice36 z_notint36 rfl rfl (fun _ => UU) (fun w hs => Src.slice ((rd_blkA MM) w hs) (Inbox.BA.cells_len (x := (⟨(Tree.behind (Tree.bl X) its salt), A', c'⟩ : Inbox.BA)) (Tree.hash_len _)) (Tree.ba_cell (⟨(Tree.behind (Tree.bl X) its salt), A', c'⟩ : Inbox.BA))) (by unfold maxLen at *; omega) (by omega) rfl rfl rfl H524 ?_
       clear H524; intro v525 a525 wx525 hnil525 H525
       obtain ⟨ArV, crV, hvrV, hRrV, hmrV⟩ := row_shape (v := v525) H525.sep MM
       subst hvrV
       refine hfinA H525.sep ?_
       refine hgo 15 rfl (by kernel_rfl) ?_
       refine st_append rfl z_slice75 z_notint75 rfl rfl (fun _ => UU) (fun w hs => Src.slice ((rd_blkA MM) w hs) (by rw [List.length_map]; exact Tree.hash_len _) (by intro q hq; obtain ⟨y, _, rfl⟩ := List.mem_map.1 hq; rfl)) (by unfold maxLen at *; omega) (by omega) rfl rfl rfl H525 ?_
       clear H525; intro v526 a526 wx526 hnil526 H526
       obtain ⟨ArU, crU, hvrU, hRrU, hmrU⟩ := row_shape (v := v526) H526.sep MM
       subst hvrU
       refine hfinA H526.sep ?_
       refine htake 16 rfl (by kernel_rfl) (y_nilCheck rfl rfl) rfl rfl rfl (fun _ h => h.subA) H526 ?_
       clear H526; intro a527 H527
       refine htake 17 rfl (by kernel_rfl) (y_fieldB rfl z_field77_0 rfl (by first | (simp only [Nat.zero_add, Nat.add_zero, Nat.reduceAdd]; rfl) | rfl)) rfl rfl rfl (fun _ h => h.subA) H527 ?_
       clear H527; intro a528 H528
       refine hgo 18 rfl (by kernel_rfl) ?_
       refine st_store1N rfl z_size36 rfl rfl rfl UU q_len_c4 q_set_c4_0 (by decide) rfl rfl H528 ?_
       clear H528; intro wx529 H529
       refine hfinA H529.sep ?_
       refine htake 19 rfl (by kernel_rfl) (y_nilCheck rfl rfl) rfl rfl rfl (fun _ h => h.subA) H529 ?_
       clear H529; intro a530 H530
       refine htake 20 rfl (by kernel_rfl) (y_fieldB rfl z_field77_1 rfl (by first | (simp only [Nat.zero_add, Nat.add_zero, Nat.reduceAdd]; rfl) | rfl)) rfl rfl rfl (fun _ h => h.subA) H530 ?_
       clear H530; intro a531 H531
       refine hgo 21 rfl (by kernel_rfl) ?_
       refine st_store1N rfl z_size75 rfl rfl rfl UU q_len_c4 q_set_c4_1 (by decide) rfl rfl H531 ?_
       clear H531; intro wx532 H532
       refine hfinA H532.sep ?_
       refine hdone (by kernel_rfl) ?_
       refine then_n ?_
       refine wp_seq ?_
       refine reg ?_
       refine plain (y_loadAB rfl z_agg23 z_size23 rfl MM (q_ld_b32_0_32 (by first | assumption | exact Tree.hash_len _)) (q_len_b32 (by first | assumption | exact Tree.hash_len _))) rfl rfl rfl H532 ?_
       clear H532; intro a533 H533
       refine st_storeN rfl z_size23 rfl rfl (agg_cells _) UU q_one_b32 (q_len_b32 (by first | assumption | exact Tree.hash_len _)) (q_len_b32 (by first | assumption | exact Tree.hash_len _)) (q_spl_b32_0_b32 (by first | assumption | exact Tree.hash_len _) (by first | assumption | exact Tree.hash_len _)) (by decide) rfl rfl H533 ?_
       clear H533; intro wx534 H534
       refine plain (y_assign rfl rfl) rfl rfl rfl H534 ?_
       clear H534; intro a535 H535
       refine fin ?_
       refine then_n ?_
       refine wp_ret ?_
       -- return 39
       refine retct rfl H535 rfl z_agg23 z_size23 MM (q_len_b32 (by first | assumption | exact Tree.hash_len _)) rfl ?_
       have hz0 := Tree.mine_good hf2 hw2; rw [hz0]; refine ⟨_, _, rfl, ⟨(X ++ [(⟨(Tree.behind (Tree.bl X) its salt), A', c'⟩ : Inbox.BA)]), (.slice ArV (X.length + 1) crV), (.slice ArU (X.length + 1) crU), ⟨Tree.bl_app _ _, hX.app (Tree.Wfs.one hwB)⟩, rfl, rfl⟩, ?_⟩; rw [Tree.bc_append, Tree.bc_one, Tree.hs_one, hc_append, hc_one, List.length_append]; have hfz0 := (H535.front (is := [It.row 69 4 (.slice A' its.length c') its.length (Inbox.ic its), (Tree.It.fz X)]) (.cons PP (.cons PP (.nil _)))); simp only [List.cons_append, List.nil_append] at hfz0; have hfz := Tree.St.freeze (x := (⟨(Tree.behind (Tree.bl X) its salt), A', c'⟩ : Inbox.BA)) hfz0; exact (hfz.only (is := [It.row 26 35 (.slice ArV (X.length + 1) crV) (X.length + 1) (Inbox.bc X ++ Inbox.BA.cells (⟨(Tree.behind (Tree.bl X) its salt), A', c'⟩ : Inbox.BA)), It.row 23 32 (.slice ArU (X.length + 1) crU) (X.length + 1) (hc (Tree.hashes (Tree.bl X)) ++ (Tree.hash (Tree.behind (Tree.bl X) its salt)).1.map u8), It.blk c 77 [(.slice ArV (X.length + 1) crV), (.slice ArU (X.length + 1) crU), i64 dp, i64 de], (Tree.It.fz (X ++ [(⟨(Tree.behind (Tree.bl X) its salt), A', c'⟩ : Inbox.BA)]))]) (.cons PP (.cons PP (.cons PP (.cons PP (.nil _)))))).sep
     ·skip
      refine plain (y_loadB rfl z_agg75 rfl MM q_ix_c4_1) rfl rfl rfl H510 ?_
      clear H510; intro a536 H536
      refine hfinA H536.sep ?_
      refine hgo 5 rfl (by kernel_rfl) ?_
      refine plain (y_loadB rfl z_agg36 rfl MM q_ix_c4_0) rfl rfl rfl H536 ?_
      clear H536; intro a537 H537
      refine hfinA H537.sep ?_
      refine hgo 8 rfl (by kernel_rfl) ?_
      refine st_append rfl z_slice36 z_notint36 rfl rfl (fun _ => UU) (fun w hs => Src.slice ((rd_blkA MM) w hs) (Inbox.BA.cells_len (x := (⟨(Tree.behind (Tree.bl X) its salt), A', c'⟩ : Inbox.BA)) (Tree.hash_len _)) (Tree.ba_cell (⟨(Tree.behind (Tree.bl X) its salt), A', c'⟩ : Inbox.BA))) (by unfold maxLen at *; omega) (by omega) rfl rfl rfl H537 ?_
      clear H537; intro v538 a538 wx538 hnil538 H538
      obtain ⟨ArV, crV, hvrV, hRrV, hmrV⟩ := row_shape (v := v538) H538.sep MM
      subst hvrV
      refine hfinA H538.sep ?_
      refine hgo 15 rfl (by kernel_rfl) ?_
      refine st_append rfl z_slice75 z_notint75 rfl rfl (fun _ => UU) (fun w hs => Src.slice ((rd_blkA MM) w hs) (by rw [List.length_map]; exact Tree.hash_len _) (by intro q hq; obtain ⟨y, _, rfl⟩ := List.mem_map.1 hq; rfl)) (by unfold maxLen at *; omega) (by omega) rfl rfl rfl H538 ?_
      clear H538; intro v539 a539 wx539 hnil539 H539
      obtain ⟨ArU, crU, hvrU, hRrU, hmrU⟩ := row_shape (v := v539) H539.sep MM
      subst hvrU
      refine hfinA H539.sep ?_
      refine htake 16 rfl (by kernel_rfl) (y_nilCheck rfl rfl) rfl rfl rfl (fun _ h => h.subA) H539 ?_
      clear H539; intro a540 H540
      refine htake 17 rfl (by kernel_rfl) (y_fieldB rfl z_field77_0 rfl (by first | (simp only [Nat.zero_add, Nat.add_zero, Nat.reduceAdd]; rfl) | rfl)) rfl rfl rfl (fun _ h => h.subA) H540 ?_
      clear H540; intro a541 H541
      refine hgo 18 rfl (by kernel_rfl) ?_
      refine st_store1N rfl z_size36 rfl rfl rfl UU q_len_c4 q_set_c4_0 (by decide) rfl rfl H541 ?_
      clear H541; intro wx542 H542
      refine hfinA H542.sep ?_
      refine htake 19 rfl (by kernel_rfl) (y_nilCheck rfl rfl) rfl rfl rfl (fun _ h => h.subA) H542 ?_
      clear H542; intro a543 H543
      refine htake 20 rfl (by kernel_rfl) (y_fieldB rfl z_field77_1 rfl (by first | (simp only [Nat.zero_add, Nat.add_zero, Nat.reduceAdd]; rfl) | rfl)) rfl rfl rfl (fun _ h => h.subA) H543 ?_
      clear H543; intro a544 H544
      refine hgo 21 rfl (by kernel_rfl) ?_
      refine st_store1N rfl z_size75 rfl rfl rfl UU q_len_c4 q_set_c4_1 (by decide) rfl rfl H544 ?_
      clear H544; intro wx545 H545
      refine hfinA H545.sep ?_
      refine hdone (by kernel_rfl) ?_
      refine then_n ?_
      refine wp_seq ?_
      refine reg ?_
      refine plain (y_loadAB rfl z_agg23 z_size23 rfl MM (q_ld_b32_0_32 (by first | assumption | exact Tree.hash_len _)) (q_len_b32 (by first | assumption | exact Tree.hash_len _))) rfl rfl rfl H545 ?_
      clear H545; intro a546 H546
      refine st_storeN rfl z_size23 rfl rfl (agg_cells _) UU q_one_b32 (q_len_b32 (by first | assumption | exact Tree.hash_len _)) (q_len_b32 (by first | assumption | exact Tree.hash_len _)) (q_spl_b32_0_b32 (by first | assumption | exact Tree.hash_len _) (by first | assumption | exact Tree.hash_len _)) (by decide) rfl rfl H546 ?_
      clear H546; intro wx547 H547
      refine plain (y_assign rfl rfl) rfl rfl rfl H547 ?_
      clear H547; intro a548 H548
      refine fin ?_
      refine then_n ?_
      refine wp_ret ?_
      -- return 40
      refine retct rfl H548 rfl z_agg23 z_size23 MM (q_len_b32 (by first | assumption | exact Tree.hash_len _)) rfl ?_
      have hz0 := Tree.mine_good hf2 hw2; rw [hz0]; refine ⟨_, _, rfl, ⟨(X ++ [(⟨(Tree.behind (Tree.bl X) its salt), A', c'⟩ : Inbox.BA)]), (.slice ArV (X.length + 1) crV), (.slice ArU (X.length + 1) crU), ⟨Tree.bl_app _ _, hX.app (Tree.Wfs.one hwB)⟩, rfl, rfl⟩, ?_⟩; rw [Tree.bc_append, Tree.bc_one, Tree.hs_one, hc_append, hc_one, List.length_append]; have hfz0 := (H548.front (is := [It.row 69 4 (.slice A' its.length c') its.length (Inbox.ic its), (Tree.It.fz X)]) (.cons PP (.cons PP (.nil _)))); simp only [List.cons_append, List.nil_append] at hfz0; have hfz := Tree.St.freeze (x := (⟨(Tree.behind (Tree.bl X) its salt), A', c'⟩ : Inbox.BA)) hfz0; exact (hfz.only (is := [It.row 26 35 (.slice ArV (X.length + 1) crV) (X.length + 1) (Inbox.bc X ++ Inbox.BA.cells (⟨(Tree.behind (Tree.bl X) its salt), A', c'⟩ : Inbox.BA)), It.row 23 32 (.slice ArU (X.length + 1) crU) (X.length + 1) (hc (Tree.hashes (Tree.bl X)) ++ (Tree.hash (Tree.behind (Tree.bl X) its salt)).1.map u8), It.blk c 77 [(.slice ArV (X.length + 1) crV), (.slice ArU (X.length + 1) crU), i64 dp, i64 de], (Tree.It.fz (X ++ [(⟨(Tree.behind (Tree.bl X) its salt), A', c'⟩ : Inbox.BA)]))]) (.cons PP (.cons PP (.cons PP (.cons PP (.nil _)))))).sep
    ·skip
     refine plain (y_loadB rfl z_agg75 rfl MM q_ix_c4_1) rfl rfl rfl H470 ?_
     clear H470; intro a549 H549
     refine hfinA H549.sep ?_
     refine hgo2 5 7 rfl rfl (by kernel_rfl) ?_ ?_
     ·skip
      refine plain (y_loadB rfl z_agg36 rfl MM q_ix_c4_0) rfl rfl rfl H549 ?_
      clear H549; intro a550 H550
      refine hfinA H550.sep ?_
      refine hgo 7 rfl (by kernel_rfl) ?_
      refine st_buildSlice rfl Tryd.underlying36 z_size26 z_zero26 rfl rfl rfl (lay_agg (agg_cells _) (Inbox.BA.cells_len (x := (⟨(Tree.behind (Tree.bl X) its salt), A', c'⟩ : Inbox.BA)) (Tree.hash_len _)) rfl) rfl rfl rfl H550 ?_
      clear H550; intro b551 a551 wx551 H551
      refine hfinA H551.sep ?_
      refine hgo 8 rfl (by kernel_rfl) ?_
      refine st_append rfl z_slice36 z_notint36 rfl rfl (fun _ => UU) (fun w hs => Src.slice ((rd_blkA MM) w hs) (Inbox.BA.cells_len (x := (⟨(Tree.behind (Tree.bl X) its salt), A', c'⟩ : Inbox.BA)) (Tree.hash_len _)) (Tree.ba_cell (⟨(Tree.behind (Tree.bl X) its salt), A', c'⟩ : Inbox.BA))) (by unfold maxLen at *; omega) (by omega) rfl rfl rfl H551 ?_
      clear H551; intro v552 a552 wx552 hnil552 H552
      obtain ⟨ArV, crV, hvrV, hRrV, hmrV⟩ := row_shape (v := v552) H552.sep MM
      subst hvrV
      refine hfinA H552.sep ?_
      refine hgo 15 rfl (by kernel_rfl) ?_
      refine st_append rfl z_slice75 z_notint75 rfl rfl (fun _ => UU) (fun w hs => Src.slice ((rd_blkA MM) w hs) (by rw [List.length_map]; exact Tree.hash_len _) (by intro q hq; obtain ⟨y, _, rfl⟩ := List.mem_map.1 hq; rfl)) (by unfold maxLen at *; omega) (by omega) rfl rfl rfl H552 ?_
      clear H552; intro v553 a553 wx553 hnil553 H553
      obtain ⟨ArU, crU, hvrU, hRrU, hmrU⟩ := row_shape (v := v553) H553.sep MM
      subst hvrU
      refine hfinA H553.sep ?_
      refine htake 16 rfl (by kernel_rfl) (y_nilCheck rfl rfl) rfl rfl rfl (fun _ h => h.subA) H553 ?_
      clear H553; intro a554 H554
      refine htake 17 rfl (by kernel_rfl) (y_fieldB rfl z_field77_0 rfl (by first | (simp only [Nat.zero_add, Nat.add_zero, Nat.reduceAdd]; rfl) | rfl)) rfl rfl rfl (fun _ h => h.subA) H554 ?_
      clear H554; intro a555 H555
      refine hgo 18 rfl (by kernel_rfl) ?_
      refine st_store1N rfl z_size36 rfl rfl rfl UU q_len_c4 q_set_c4_0 (by decide) rfl rfl H555 ?_
      clear H555; intro wx556 H556
      refine hfinA H556.sep ?_
      refine htake 19 rfl (by kernel_rfl) (y_nilCheck rfl rfl) rfl rfl rfl (fun _ h => h.subA) H556 ?_
      clear H556; intro a557 H557
      refine htake 20 rfl (by kernel_rfl) (y_fieldB rfl z_field77_1 rfl (by first | (simp only [Nat.zero_add, Nat.add_zero, Nat.reduceAdd]; rfl) | rfl)) rfl rfl rfl (fun _ h => h.subA) H557 ?_
      clear H557; intro a558 H558
      refine hgo 21 rfl (by kernel_rfl) ?_
      refine st_store1N rfl z_size75 rfl rfl rfl UU q_len_c4 q_set_c4_1 (by decide) rfl rfl H558 ?_
      clear H558; intro wx559 H559
      refine hfinA H559.sep ?_
      refine hdone (by kernel_rfl) ?_
      refine then_n ?_
      refine wp_seq ?_
      refine reg ?_
      refine plain (y_loadAB rfl z_agg23 z_size23 rfl MM (q_ld_b32_0_32 (by first | assumption | exact Tree.hash_len _)) (q_len_b32 (by first | assumption | exact Tree.hash_len _))) rfl rfl rfl H559 ?_
      clear H559; intro a560 H560
      refine st_storeN rfl z_size23 rfl rfl (agg_cells _) UU q_one_b32 (q_len_b32 (by first | assumption | exact Tree.hash_len _)) (q_len_b32 (by first | assumption | exact Tree.hash_len _)) (q_spl_b32_0_b32 (by first | assumption | exact Tree.hash_len _) (by first | assumption | exact Tree.hash_len _)) (by decide) rfl rfl H560 ?_
      clear H560; intro wx561 H561
      refine plain (y_assign rfl rfl) rfl rfl rfl H561 ?_
      clear H561; intro a562 H562
      refine fin ?_
      refine then_n ?_
      refine wp_ret ?_
      -- return 41
      refine retct rfl H562 rfl z_agg23 z_size23 MM (q_len_b32 (by first | assumption | exact Tree.hash_len _)) rfl ?_
      have hz0 := Tree.mine_good hf2 hw2; rw [hz0]; refine ⟨_, _, rfl, ⟨(X ++ [(⟨(Tree.behind (Tree.bl X) its salt), A', c'⟩ : Inbox.BA)]), (.slice ArV (X.length + 1) crV), (.slice ArU (X.length + 1) crU), ⟨Tree.bl_app _ _, hX.app (Tree.Wfs.one hwB)⟩, rfl, rfl⟩, ?_⟩; rw [Tree.bc_append, Tree.bc_one, Tree.hs_one, hc_append, hc_one, List.length_append]; have hfz0 := (H562.front (is := [It.row 69 4 (.slice A' its.length c') its.length (Inbox.ic its), (Tree.It.fz X)]) (.cons PP (.cons PP (.nil _)))); simp only [List.cons_append, List.nil_append] at hfz0; have hfz := Tree.St.freeze (x := (⟨(Tree.behind (Tree.bl X) its salt), A', c'⟩ : Inbox.BA)) hfz0; exact (hfz.only (is := [It.row 26 35 (.slice ArV (X.length + 1) crV) (X.length + 1) (Inbox.bc X ++ Inbox.BA.cells (⟨(Tree.behind (Tree.bl X) its salt), A', c'⟩ : Inbox.BA)), It.row 23 32 (.slice ArU (X.length + 1) crU) (X.length + 1) (hc (Tree.hashes (Tree.bl X)) ++ (Tree.hash (Tree.behind (Tree.bl X) its salt)).1.map u8), It.blk c 77 [(.slice ArV (X.length + 1) crV), (.slice ArU (X.length + 1) crU), i64 dp, i64 de], (Tree.It.fz (X ++ [(⟨(Tree.behind (Tree.bl X) its salt), A', c'⟩ : Inbox.BA)]))]) (.cons PP (.cons PP (.cons PP (.cons PP (.nil _)))))).sep
     ·skip
      refine st_buildSlice rfl Tryd.underlying36 z_size26 z_zero26 rfl rfl rfl (lay_agg (agg_cells _) (Inbox.BA.cells_len (x := (⟨(Tree.behind (Tree.bl X) its salt), A', c'⟩ : Inbox.BA)) (Tree.hash_len _)) rfl) rfl rfl rfl H549 ?_
      clear H549; intro b563 a563 wx563 H563
      refine hfinA H563.sep ?_
      refine hgo 5 rfl (by kernel_rfl) ?_
      refine plain (y_loadB rfl z_agg36 rfl MM q_ix_c4_0) rfl rfl rfl H563 ?_
      clear H563; intro a564 H564
      refine hfinA H564.sep ?_
      refine hgo 8 rfl (by kernel_rfl) ?_
      refine st_append rfl z_slice36 z_notint36 rfl rfl (fun _ => UU) (fun w hs => Src.slice ((rd_blkA MM) w hs) (Inbox.BA.cells_len (x := (⟨(Tree.behind (Tree.bl X) its salt), A', c'⟩ : Inbox.BA)) (Tree.hash_len _)) (Tree.ba_cell (⟨(Tree.behind (Tree.bl X) its salt), A', c'⟩ : Inbox.BA))) (by unfold maxLen at *; omega) (by omega) rfl rfl rfl H564 ?_
      clear H564; intro v565 a565 wx565 hnil565 H565
      obtain ⟨ArV, crV, hvrV, hRrV, hmrV⟩ := row_shape (v := v565) H565.sep MM
      subst hvrV
      refine hfinA H565.sep ?_
      refine hgo 15 rfl (by kernel_rfl) ?_
      refine st_append rfl z_slice75 z_notint75 rfl rfl (fun _ => UU) (fun w hs => Src.slice ((rd_blkA MM) w hs) (by rw [List.length_map]; exact Tree.hash_len _) (by intro q hq; obtain ⟨y, _, rfl⟩ := List.mem_map.1 hq; rfl)) (by unfold maxLen at *; omega) (by omega) rfl rfl rfl H565 ?_
      clear H565; intro v566 a566 wx566 hnil566 H566
      obtain ⟨ArU, crU, hvrU, hRrU, hmrU⟩ := row_shape (v := v566) H566.sep MM
      subst hvrU
      refine hfinA H566.sep ?_
      refine htake 16 rfl (by kernel_rfl) (y_nilCheck rfl rfl) rfl rfl rfl (fun _ h => h.subA) H566 ?_
      clear H566; intro a567 H567
      refine htake 17 rfl (by kernel_rfl) (y_fieldB rfl z_field77_0 rfl (by first | (simp only [Nat.zero_add, Nat.add_zero, Nat.reduceAdd]; rfl) | rfl)) rfl rfl rfl (fun _ h => h.subA) H567 ?_
      clear H567; intro a568 H568
      refine hgo 18 rfl (by kernel_rfl) ?_
      refine st_store1N rfl z_size36 rfl rfl rfl UU q_len_c4 q_set_c4_0 (by decide) rfl rfl H568 ?_
      clear H568; intro wx569 H569
      refine hfinA H569.sep ?_
      refine htake 19 rfl (by kernel_rfl) (y_nilCheck rfl rfl) rfl rfl rfl (fun _ h => h.subA) H569 ?_
      clear H569; intro a570 H570
      refine htake 20 rfl (by kernel_rfl) (y_fieldB rfl z_field77_1 rfl (by first | (simp only [Nat.zero_add, Nat.add_zero, Nat.reduceAdd]; rfl) | rfl)) rfl rfl rfl (fun _ h => h.subA) H570 ?_
      clear H570; intro a571 H571
      refine hgo 21 rfl (by kernel_rfl) ?_
      refine st_store1N rfl z_size75 rfl rfl rfl UU q_len_c4 q_set_c4_1 (by decide) rfl rfl H571 ?_
      clear H571; intro wx572 H572
      refine hfinA H572.sep ?_
      refine hdone (by kernel_rfl) ?_
      refine then_n ?_
      refine wp_seq ?_
      refine reg ?_
      refine plain (y_loadAB rfl z_agg23 z_size23 rfl MM (q_ld_b32_0_32 (by first | assumption | exact Tree.hash_len _)) (q_len_b32 (by first | assumption | exact Tree.hash_len _))) rfl rfl rfl H572 ?_
      clear H572; intro a573 H573
      refine st_storeN rfl z_size23 rfl rfl (agg_cells _) UU q_one_b32 (q_len_b32 (by first | assumption | exact Tree.hash_len _)) (q_len_b32 (by first | assumption | exact Tree.hash_len _)) (q_spl_b32_0_b32 (by first | assumption | exact Tree.hash_len _) (by first | assumption | exact Tree.hash_len _)) (by decide) rfl rfl H573 ?_
      clear H573; intro wx574 H574
      refine plain (y_assign rfl rfl) rfl rfl rfl H574 ?_
      clear H574; intro a575 H575
      refine fin ?_
      refine then_n ?_
      refine wp_ret ?_
      -- return 42
      refine retct rfl H575 rfl z_agg23 z_size23 MM (q_len_b32 (by first | assumption | exact Tree.hash_len _)) rfl ?_
      have hz0 := Tree.mine_good hf2 hw2; rw [hz0]; refine ⟨_, _, rfl, ⟨(X ++ [(⟨(Tree.behind (Tree.bl X) its salt), A', c'⟩ : Inbox.BA)]), (.slice ArV (X.length + 1) crV), (.slice ArU (X.length + 1) crU), ⟨Tree.bl_app _ _, hX.app (Tree.Wfs.one hwB)⟩, rfl, rfl⟩, ?_⟩; rw [Tree.bc_append, Tree.bc_one, Tree.hs_one, hc_append, hc_one, List.length_append]; have hfz0 := (H575.front (is := [It.row 69 4 (.slice A' its.length c') its.length (Inbox.ic its), (Tree.It.fz X)]) (.cons PP (.cons PP (.nil _)))); simp only [List.cons_append, List.nil_append] at hfz0; have hfz := Tree.St.freeze (x := (⟨(Tree.behind (Tree.bl X) its salt), A', c'⟩ : Inbox.BA)) hfz0; exact (hfz.only (is := [It.row 26 35 (.slice ArV (X.length + 1) crV) (X.length + 1) (Inbox.bc X ++ Inbox.BA.cells (⟨(Tree.behind (Tree.bl X) its salt), A', c'⟩ : Inbox.BA)), It.row 23 32 (.slice ArU (X.length + 1) crU) (X.length + 1) (hc (Tree.hashes (Tree.bl X)) ++ (Tree.hash (Tree.behind (Tree.bl X) its salt)).1.map u8), It.blk c 77 [(.slice ArV (X.length + 1) crV), (.slice ArU (X.length + 1) crU), i64 dp, i64 de], (Tree.It.fz (X ++ [(⟨(Tree.behind (Tree.bl X) its salt), A', c'⟩ : Inbox.BA)]))]) (.cons PP (.cons PP (.cons PP (.cons PP (.nil _)))))).sep

end Go.Proofs.YtlhddgkbbdfacaaDoor.C_Mine
