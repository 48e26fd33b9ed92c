/- Part of a proof about given Go functions: contracts of functions, or plain laws. -/
import Derived.Test.YtlhddgkbbdfacaaDoorS9
import Derived.Test.YtlhddgkbbdfacaaDoorS7
import Derived.Test.YtlhddgkbbdfacaaDoorS8
import Derived.Test.YtlhddgkbbdfacaaDoorS3
import Derived.Test.YtlhddgkbbdfacaaDoorS4
import Derived.Test.YtlhddgkbbdfacaaDoorS1
import Derived.Test.YtlhddgkbbdfacaaDoorS2
import Derived.Test.YtlhddgkbbdfacaaDoorProg
import Derived.Test.YtlhddgkbbdfacaaDoorW1
import Derived.Test.YtlhddgkbbdfacaaDoorW2
import Derived.Test.YtlhddgkbbdfacaaDoorS10
import Derived.Test.YtlhddgkbbdfacaaDoorW3
set_option linter.unusedVariables false
set_option linter.unusedSimpArgs false
namespace Go.Proofs.YtlhddgkbbdfacaaDoor.C_Turn
open Go.Sx Go.RowKit Go.Proofs.YtlhddgkbbdfacaaDoor.C_Block Go.Proofs.YtlhddgkbbdfacaaDoor.C_Sum Go.Proofs.YtlhddgkbbdfacaaDoor.C_Ref Go.Proofs.YtlhddgkbbdfacaaDoor.C_RSum Go.Proofs.YtlhddgkbbdfacaaDoor.C_Num Go.Proofs.YtlhddgkbbdfacaaDoor.C_Lay Go.Proofs.YtlhddgkbbdfacaaDoor.C_Leaf Go.Proofs.YtlhddgkbbdfacaaDoor.C_Item Go.Proofs.YtlhddgkbbdfacaaDoor.C_RefI Go.Proofs.YtlhddgkbbdfacaaDoor.C_Eq Go.Proofs.YtlhddgkbbdfacaaDoor.C_Hash Go.Proofs.YtlhddgkbbdfacaaDoor.C_Nx Go.Proofs.YtlhddgkbbdfacaaDoor.C_Sm

theorem z_call21 : callB Tryd.prog 21 = true := by kernel_rfl
theorem z_size26 : sizeB Tryd.prog 26 = some 35 := by kernel_rfl
theorem z_zero26 : zeroL Tryd.prog 26 = some ([.int .i64 0, .int .i64 0, .int .u8 0, .int .u8 0, .int .u8 0, .int .u8 0, .int .u8 0, .int .u8 0, .int .u8 0, .int .u8 0, .int .u8 0, .int .u8 0, .int .u8 0, .int .u8 0, .int .u8 0, .int .u8 0, .int .u8 0, .int .u8 0, .int .u8 0, .int .u8 0, .int .u8 0, .int .u8 0, .int .u8 0, .int .u8 0, .int .u8 0, .int .u8 0, .int .u8 0, .int .u8 0, .int .u8 0, .int .u8 0, .int .u8 0, .int .u8 0, .int .u8 0, .int .u8 0, .slice none 0 0]) := by kernel_rfl
theorem z_field77_0 : fieldB Tryd.prog 77 0 = some 0 := by kernel_rfl
theorem z_agg36 : aggB Tryd.prog 36 = some false := by kernel_rfl
theorem q_ix_c4_0 {a0 a1 a2 a3 : Value} : (a0 :: a1 :: a2 :: a3 :: [])[0]? = some a0 := ix_0
theorem z_slice36 : sliceB Tryd.prog 36 = some (26, 35, 72) := by kernel_rfl
theorem z_notint36 : notIntB Tryd.prog 36 = true := by kernel_rfl
theorem z_size23 : sizeB Tryd.prog 23 = some 32 := by kernel_rfl
theorem z_zero23 : zeroL Tryd.prog 23 = some (List.replicate 32 (.int .u8 0)) := by kernel_rfl
theorem z_field77_1 : fieldB Tryd.prog 77 1 = some 1 := by kernel_rfl
theorem z_agg75 : aggB Tryd.prog 75 = some false := by kernel_rfl
theorem q_ix_c4_1 {a0 a1 a2 a3 : Value} : (a0 :: a1 :: a2 :: a3 :: [])[1]? = some a1 := (ix_c (o := 0) ix_0)
theorem z_slice75 : sliceB Tryd.prog 75 = some (23, 32, 32) := by kernel_rfl
theorem z_notint75 : notIntB Tryd.prog 75 = true := by kernel_rfl
theorem z_size24 : sizeB Tryd.prog 24 = some 1 := by kernel_rfl
theorem z_agg24 : aggB Tryd.prog 24 = some false := by kernel_rfl
theorem z_agg23 : aggB Tryd.prog 23 = some true := by kernel_rfl
theorem z_call39 : callB Tryd.prog 39 = true := by kernel_rfl
theorem z_zeroN26 : zeroL Tryd.prog 26 = some ((.int .i64 0 :: (.int .i64 0 :: ((List.replicate 32 (0 : UInt8)).map u8 ++ (.slice none 0 0 :: []))))) := by kernel_rfl
theorem z_zeroN23 : zeroL Tryd.prog 23 = some ((List.replicate 32 (0 : UInt8)).map u8) := by kernel_rfl
theorem q_one_c2b32c1 {a0 a1 a3 : Value} {t2 : List UInt8} (o0 : a0.oneCell' = true) (o1 : a1.oneCell' = true) (o3 : a3.oneCell' = true) : (a0 :: a1 :: (t2.map u8 ++ (a3 :: []))).all (·.oneCell') = true := (one_c o0 (one_c o1 (one_b (one_c o3 one_n))))
theorem q_len_c2b32c1 {a0 a1 a3 : Value} {t2 : List UInt8} (h2 : t2.length = 32) : (a0 :: a1 :: (t2.map u8 ++ (a3 :: []))).length = 35 := (len_c (n := 34) (len_c (n := 33) (len_b (k := 32) (n := 1) h2 (len_c (n := 0) len_n))))
theorem q_spl_c2b32c1_0_c2b32c1 {a0 a1 a3 : Value} {t2 : List UInt8} {b0 b1 b3 : Value} {s2 : List UInt8} (h2 : t2.length = 32) (g2 : s2.length = 32) : spl (a0 :: a1 :: (t2.map u8 ++ (a3 :: []))) 0 (b0 :: b1 :: (s2.map u8 ++ (b3 :: []))) = b0 :: b1 :: (s2.map u8 ++ (b3 :: [])) := (spl_a (z := 35) (len_c (n := 34) (len_c (n := 33) (len_b (k := 32) (n := 1) h2 (len_c (n := 0) len_n)))) (len_c (n := 34) (len_c (n := 33) (len_b (k := 32) (n := 1) g2 (len_c (n := 0) len_n)))))
theorem q_one_b32 {t0 : List UInt8} : (t0.map u8).all (·.oneCell') = true := (one_u8 _)
theorem q_len_b32 {t0 : List UInt8} (h0 : t0.length = 32) : (t0.map u8).length = 32 := (len_e (k := 32) h0)
theorem q_spl_b32_0_b32 {t0 : List UInt8} {s0 : List UInt8} (h0 : t0.length = 32) (g0 : s0.length = 32) : spl (t0.map u8) 0 (s0.map u8) = s0.map u8 := (spl_a (z := 32) (len_e (k := 32) h0) (len_e (k := 32) g0))
theorem z_agg26 : aggB Tryd.prog 26 = some true := by kernel_rfl
theorem q_ld_c2b32c1_0_35 {a0 a1 a3 : Value} {t2 : List UInt8} (h2 : t2.length = 32) : ((a0 :: a1 :: (t2.map u8 ++ (a3 :: []))).drop 0).take 35 = a0 :: a1 :: (t2.map u8 ++ (a3 :: [])) := (ld_a (len_c (n := 34) (len_c (n := 33) (len_b (k := 32) (n := 1) h2 (len_c (n := 0) len_n)))))
theorem q_ld_b32_0_32 {t0 : List UInt8} (h0 : t0.length = 32) : ((t0.map u8).drop 0).take 32 = t0.map u8 := (ld_a (len_e (k := 32) h0))
theorem z_field77_3 : fieldB Tryd.prog 77 3 = some 3 := by kernel_rfl
theorem z_agg3 : aggB Tryd.prog 3 = some false := by kernel_rfl
theorem q_ix_c4_3 {a0 a1 a2 a3 : Value} : (a0 :: a1 :: a2 :: a3 :: [])[3]? = some a3 := (ix_c (o := 2) (ix_c (o := 1) (ix_c (o := 0) ix_0)))
theorem z_size36 : sizeB Tryd.prog 36 = some 1 := by kernel_rfl
theorem q_len_c4 {a0 a1 a2 a3 : Value} : (a0 :: a1 :: a2 :: a3 :: []).length = 4 := (len_c (n := 3) (len_c (n := 2) (len_c (n := 1) (len_c (n := 0) len_n))))
theorem q_set_c4_0 {a0 a1 a2 a3 : Value} {v : Value} : (a0 :: a1 :: a2 :: a3 :: []).set 0 v = v :: a1 :: a2 :: a3 :: [] := set_0
theorem z_size75 : sizeB Tryd.prog 75 = some 1 := by kernel_rfl
theorem q_set_c4_1 {a0 a1 a2 a3 : Value} {v : Value} : (a0 :: a1 :: a2 :: a3 :: []).set 1 v = a0 :: v :: a2 :: a3 :: [] := (set_c (o := 0) set_0)
theorem z_size3 : sizeB Tryd.prog 3 = some 1 := by kernel_rfl
theorem q_set_c4_3 {a0 a1 a2 a3 : Value} {v : Value} : (a0 :: a1 :: a2 :: a3 :: []).set 3 v = a0 :: a1 :: a2 :: v :: [] := (set_c (o := 2) (set_c (o := 1) (set_c (o := 0) set_0)))

set_option maxRecDepth 100000 in
set_option maxHeartbeats 8000000 in
theorem tturn (X : List Inbox.BA) (hX : Tree.Wfs X) (h0 : 0 < X.length) (hlen : X.length ≤ 4097) (dp de : Int) (c : Nat) (v u : Value) (hdp : Note.I64 de) (under salt : Int) (hun : Note.I64 under) (hsa : Note.I64 salt) (D : Option Addr) (cd : Nat) (bs : List Tree.IA) (hbs : ∀ q ∈ bs, Tree.IA.Wf q) (hbl0 : bs.length ≤ 1000000) {w : World} (hs : Sep (fps [It.row 26 35 v X.length (Inbox.bc X), It.row 23 32 u X.length (hc (Tree.hashes (Tree.bl X))), It.blk c 77 [v, u, i64 dp, i64 de], (Tree.It.fz X)]) w w [It.row 26 35 v X.length (Inbox.bc X), It.row 23 32 u X.length (hc (Tree.hashes (Tree.bl X))), It.blk c 77 [v, u, i64 dp, i64 de], (Tree.It.fz X)]) (hK : Tree.Keeps [It.row 26 35 v X.length (Inbox.bc X), It.row 23 32 u X.length (hc (Tree.hashes (Tree.bl X))), It.blk c 77 [v, u, i64 dp, i64 de], (Tree.It.fz X)] w D (Tree.iac bs)) (hK2 : ∀ q ∈ bs, Tree.Keeps [It.row 26 35 v X.length (Inbox.bc X), It.row 23 32 u X.length (hc (Tree.hashes (Tree.bl X))), It.blk c 77 [v, u, i64 dp, i64 de], (Tree.It.fz X)] w q.A (Inbox.ic q.l)) (hG : Glob 0 Sha.K w) (hz : 0 ∉ fps [It.row 26 35 v X.length (Inbox.bc X), It.row 23 32 u X.length (hc (Tree.hashes (Tree.bl X))), It.blk c 77 [v, u, i64 dp, i64 de], (Tree.It.fz X)]) : Calls Tryd.prog 15 #[.pointer (some ⟨c, 0, none⟩), .int .i64 under, .slice D bs.length cd, .int .i64 salt] w (Post (fps [It.row 26 35 v X.length (Inbox.bc X), It.row 23 32 u X.length (hc (Tree.hashes (Tree.bl X))), It.blk c 77 [v, u, i64 dp, i64 de], (Tree.It.fz X)]) w fun r l' => ∃ (X' : List Inbox.BA) (v' u' : Value), (Tree.bl X' = (Tree.turn (⟨Tree.bl X, dp, de⟩ : Tree.Chain) under (Tree.itl bs) salt).1.L ∧ Tree.Wfs X') ∧ r = .int .i64 (Tree.turn (⟨Tree.bl X, dp, de⟩ : Tree.Chain) under (Tree.itl bs) salt).2 ∧ l' = [It.row 26 35 v' X'.length (Inbox.bc X'), It.row 23 32 u' X'.length (hc (Tree.hashes (Tree.bl X'))), It.blk c 77 [v', u', i64 dp, i64 (Tree.turn (⟨Tree.bl X, dp, de⟩ : Tree.Chain) under (Tree.itl bs) salt).1.deepest], (Tree.It.fz X')]) := by
 obtain ⟨A1, c1, rfl, hR1, hm1⟩ := row_shape (v := v) hs MM
 obtain ⟨A2, c2, rfl, hR2, hm2⟩ := row_shape (v := u) hs MM
 have hcap1 := row_cap (A := A1) (c := c1) hs MM
 have hcap2 := row_cap (A := A2) (c := c2) hs MM
 have hZl : Note.Z.length = 32 := Note.Z_len
 have hbl := Tree.bl_len X
 have hil := Tree.itl_len bs
 have hun2 := hun.2
 have hun1 := hun.1
 have hde := hdp.1
 have hde2 := hdp.2
 have hhe : Tree.Chain.height (⟨Tree.bl X, dp, de⟩ : Tree.Chain) = (X.length : Int) - 1 := by show ((Tree.bl X).length : Int) - 1 = _; rw [hbl]
 have lz32 : (List.replicate 32 (0 : UInt8)).length = 32 := List.length_replicate
 refine enterL (args := [.pointer (some ⟨c, 0, none⟩), .int .i64 under, .slice D bs.length cd, .int .i64 salt]) Tryd.func15 rfl rfl (l := [It.row 26 35 (.slice A1 X.length c1) X.length (Inbox.bc X), It.row 23 32 (.slice A2 X.length c2) X.length (hc (Tree.hashes (Tree.bl X))), It.blk c 77 [(.slice A1 X.length c1), (.slice A2 X.length c2), i64 dp, i64 de], (Tree.It.fz X)]) hs ?_
 intro a0 H0
 refine wp_seq ?_
 refine reg ?_
 refine plain (y_assign rfl rfl) rfl rfl rfl H0 ?_
 clear H0; intro a1 H1
 refine fin ?_
 refine then_n ?_
 refine wp_seq ?_
 refine wp_block ?_
 refine wp_seq ?_
 refine reg ?_
 refine plain (y_move rfl rfl) rfl rfl rfl H1 ?_
 clear H1; intro a2 H2
 refine plain (y_peql rfl Tryd.underlying33 rfl rfl) rfl rfl rfl H2 ?_
 clear H2; intro a3 H3
 refine plain (y_assign rfl rfl) rfl rfl rfl H3 ?_
 clear H3; intro a4 H4
 refine fin ?_
 refine then_n ?_
 refine cnd_f H4 rfl ?_
 refine wp_seq ?_
 refine reg ?_
 refine plain (y_move rfl rfl) rfl rfl rfl H4 ?_
 clear H4; intro a6 H6
 refine plain (y_lss rfl rfl rfl) rfl rfl rfl H6 ?_
 clear H6; intro a7 H7
 refine plain (y_assign rfl rfl) rfl rfl rfl H7 ?_
 clear H7; intro a8 H8
 refine fin ?_
 refine then_n ?_
 refine cnd H8 rfl (fun hc9 => ?_) (fun hc9 => ?_) -- cond 2
 ·skip
  try simp only [decide_eq_true_eq, decide_eq_false_iff_not, Bool.not_eq_true', Bool.not_eq_false', Bool.and_eq_true, Bool.not_eq_true, Bool.not_eq_false] at hc9
  have hn1 := hc9
  refine wp_seq ?_
  refine reg ?_
  refine plain (y_assign rfl rfl) rfl rfl rfl H8 ?_
  clear H8; intro a10 H10
  refine fin ?_
  refine then_n ?_
  refine wp_ret ?_
  refine inb_r ?_
  refine then_r ?_
  -- return 1
  refine ret1 rfl H10 rfl ?_
  first | (have hz9 := hFA2; have hz0 := Tree.turn_good (c := (⟨Tree.bl X, dp, de⟩ : Tree.Chain)) (u := under) (bs := Tree.itl bs) (salt := salt) (by omega) (by rw [hhe]; omega) (by rw [hil]; omega) (by rw [hhe, hil]; omega) hFA2; rw [hz0]; have hfz := Tree.St.thin (Y := Y) (by have hq := (H10.front (is := [(Tree.It.fz (X ++ N))]) (.cons PP (.nil _))); simp only [List.cons_append, List.nil_append] at hq; exact hq) (fun y hy => by rw [← hYe] at hy; rcases List.mem_append.1 hy with hy | hy; exact List.mem_append_left _ (List.mem_of_mem_take hy); exact List.mem_append_right _ hy); exact ⟨_, _, rfl, ⟨Y, (.slice A3 Y.length c3), (.slice A4 Y.length c4), ⟨hFA.1, hY⟩, rfl, rfl⟩, (hfz.only (is := [It.row 26 35 (.slice A3 Y.length c3) Y.length (Inbox.bc Y), It.row 23 32 (.slice A4 Y.length c4) Y.length (hc (Tree.hashes (Tree.bl Y))), It.blk c 77 [(.slice A3 Y.length c3), (.slice A4 Y.length c4), i64 dp, i64 (max de under)], (Tree.It.fz Y)]) (.cons PP (.cons PP (.cons PP (.cons PP (.nil _)))))).sep⟩) | (have hz9 := hw1; have hz1 := Tree.far_fall hF (by rw [hil]; omega) (by rw [Tree.itl_at hkl]; exact hw1); have hz0 := Tree.turn_bad (c := (⟨Tree.bl X, dp, de⟩ : Tree.Chain)) (u := under) (bs := Tree.itl bs) (salt := salt) (by omega) (by rw [hhe]; omega) (by rw [hil]; omega) (by rw [hhe, hil]; omega) (by rw [hz1, Tree.itl_at hkl]; exact hw1); rw [hz0, hz1, Tree.itl_at hkl]; have hfz := Tree.St.thin (Y := X) (by have hq := (H10.front (is := [(Tree.It.fz (X ++ N))]) (.cons PP (.nil _))); simp only [List.cons_append, List.nil_append] at hq; exact hq) (fun y hy => List.mem_append_left _ hy); exact ⟨_, _, rfl, ⟨X, (.slice A1 X.length c1), (.slice A2 X.length c2), ⟨rfl, hX⟩, rfl, rfl⟩, (hfz.only (is := [It.row 26 35 (.slice A1 X.length c1) X.length (Inbox.bc X), It.row 23 32 (.slice A2 X.length c2) X.length (hc (Tree.hashes (Tree.bl X))), It.blk c 77 [(.slice A1 X.length c1), (.slice A2 X.length c2), i64 dp, i64 de], (Tree.It.fz X)]) (.cons PP (.cons PP (.cons PP (.cons PP (.nil _)))))).sep⟩) | (have hz0 := Tree.turn_neg (c := (⟨Tree.bl X, dp, de⟩ : Tree.Chain)) (u := under) (bs := Tree.itl bs) (salt := salt) hn1; rw [hz0]; exact ⟨_, _, rfl, ⟨X, (.slice A1 X.length c1), (.slice A2 X.length c2), ⟨rfl, hX⟩, rfl, rfl⟩, (H10.only (is := [It.row 26 35 (.slice A1 X.length c1) X.length (Inbox.bc X), It.row 23 32 (.slice A2 X.length c2) X.length (hc (Tree.hashes (Tree.bl X))), It.blk c 77 [(.slice A1 X.length c1), (.slice A2 X.length c2), i64 dp, i64 de], (Tree.It.fz X)]) (.cons PP (.cons PP (.cons PP (.cons PP (.nil _)))))).sep⟩) | (have hz0 := Tree.turn_deepR (c := (⟨Tree.bl X, dp, de⟩ : Tree.Chain)) (u := under) (bs := Tree.itl bs) (salt := salt) hn2 (by rw [hhe]; omega); rw [hz0]; exact ⟨_, _, rfl, ⟨X, (.slice A1 X.length c1), (.slice A2 X.length c2), ⟨rfl, hX⟩, rfl, rfl⟩, (H10.only (is := [It.row 26 35 (.slice A1 X.length c1) X.length (Inbox.bc X), It.row 23 32 (.slice A2 X.length c2) X.length (hc (Tree.hashes (Tree.bl X))), It.blk c 77 [(.slice A1 X.length c1), (.slice A2 X.length c2), i64 dp, i64 de], (Tree.It.fz X)]) (.cons PP (.cons PP (.cons PP (.cons PP (.nil _)))))).sep⟩) | (have hz0 := Tree.turn_few (c := (⟨Tree.bl X, dp, de⟩ : Tree.Chain)) (u := under) (bs := Tree.itl bs) (salt := salt) hn2 (by rw [hhe]; omega) (by rw [hil]; omega); rw [hz0]; exact ⟨_, _, rfl, ⟨X, (.slice A1 X.length c1), (.slice A2 X.length c2), ⟨rfl, hX⟩, rfl, rfl⟩, (H10.only (is := [It.row 26 35 (.slice A1 X.length c1) X.length (Inbox.bc X), It.row 23 32 (.slice A2 X.length c2) X.length (hc (Tree.hashes (Tree.bl X))), It.blk c 77 [(.slice A1 X.length c1), (.slice A2 X.length c2), i64 dp, i64 de], (Tree.It.fz X)]) (.cons PP (.cons PP (.cons PP (.cons PP (.nil _)))))).sep⟩) | (have hz0 := Tree.turn_full (c := (⟨Tree.bl X, dp, de⟩ : Tree.Chain)) (u := under) (bs := Tree.itl bs) (salt := salt) hn2 (by rw [hhe]; omega) (by rw [hil]; omega) (by rw [hhe, hil]; omega); rw [hz0]; exact ⟨_, _, rfl, ⟨X, (.slice A1 X.length c1), (.slice A2 X.length c2), ⟨rfl, hX⟩, rfl, rfl⟩, (H10.only (is := [It.row 26 35 (.slice A1 X.length c1) X.length (Inbox.bc X), It.row 23 32 (.slice A2 X.length c2) X.length (hc (Tree.hashes (Tree.bl X))), It.blk c 77 [(.slice A1 X.length c1), (.slice A2 X.length c2), i64 dp, i64 de], (Tree.It.fz X)]) (.cons PP (.cons PP (.cons PP (.cons PP (.nil _)))))).sep⟩)
 ·skip
  try simp only [decide_eq_true_eq, decide_eq_false_iff_not, Bool.not_eq_true', Bool.not_eq_false', Bool.and_eq_true, Bool.not_eq_true, Bool.not_eq_false] at hc9
  have hn2 := hc9
  refine wp_seq ?_
  refine reg ?_
  refine plain (y_move rfl rfl) rfl rfl rfl H8 ?_
  clear H8; intro a11 H11
  refine plain (y_move rfl rfl) rfl rfl rfl H11 ?_
  clear H11; intro a12 H12
  refine st_callg rfl z_call21 rfl rfl rfl rfl H12 (theight X hX h0 hlen dp de c (.slice A1 X.length c1) (.slice A2 X.length c2) (H12.sep.all _ MM) (H12.sep.all _ MM)) ?_
  clear H12; intro a13 wx13 H13
  refine plain (y_gtr rfl rfl rfl) rfl rfl rfl H13 ?_
  clear H13; intro a14 H14
  refine plain (y_assign rfl rfl) rfl rfl rfl H14 ?_
  clear H14; intro a15 H15
  refine fin ?_
  refine then_n ?_
  refine cnd H15 rfl (fun hc16 => ?_) (fun hc16 => ?_) -- cond 3
  ·skip
   try simp only [decide_eq_true_eq, decide_eq_false_iff_not, Bool.not_eq_true', Bool.not_eq_false', Bool.and_eq_true, Bool.not_eq_true, Bool.not_eq_false] at hc16
   have hd1 := hc16
   refine wp_seq ?_
   refine reg ?_
   refine plain (y_assign rfl rfl) rfl rfl rfl H15 ?_
   clear H15; intro a17 H17
   refine fin ?_
   refine then_n ?_
   refine wp_ret ?_
   refine inb_r ?_
   refine then_r ?_
   -- return 2
   refine ret1 rfl H17 rfl ?_
   first | (have hz9 := hFA2; have hz0 := Tree.turn_good (c := (⟨Tree.bl X, dp, de⟩ : Tree.Chain)) (u := under) (bs := Tree.itl bs) (salt := salt) (by omega) (by rw [hhe]; omega) (by rw [hil]; omega) (by rw [hhe, hil]; omega) hFA2; rw [hz0]; have hfz := Tree.St.thin (Y := Y) (by have hq := (H17.front (is := [(Tree.It.fz (X ++ N))]) (.cons PP (.nil _))); simp only [List.cons_append, List.nil_append] at hq; exact hq) (fun y hy => by rw [← hYe] at hy; rcases List.mem_append.1 hy with hy | hy; exact List.mem_append_left _ (List.mem_of_mem_take hy); exact List.mem_append_right _ hy); exact ⟨_, _, rfl, ⟨Y, (.slice A3 Y.length c3), (.slice A4 Y.length c4), ⟨hFA.1, hY⟩, rfl, rfl⟩, (hfz.only (is := [It.row 26 35 (.slice A3 Y.length c3) Y.length (Inbox.bc Y), It.row 23 32 (.slice A4 Y.length c4) Y.length (hc (Tree.hashes (Tree.bl Y))), It.blk c 77 [(.slice A3 Y.length c3), (.slice A4 Y.length c4), i64 dp, i64 (max de under)], (Tree.It.fz Y)]) (.cons PP (.cons PP (.cons PP (.cons PP (.nil _)))))).sep⟩) | (have hz9 := hw1; have hz1 := Tree.far_fall hF (by rw [hil]; omega) (by rw [Tree.itl_at hkl]; exact hw1); have hz0 := Tree.turn_bad (c := (⟨Tree.bl X, dp, de⟩ : Tree.Chain)) (u := under) (bs := Tree.itl bs) (salt := salt) (by omega) (by rw [hhe]; omega) (by rw [hil]; omega) (by rw [hhe, hil]; omega) (by rw [hz1, Tree.itl_at hkl]; exact hw1); rw [hz0, hz1, Tree.itl_at hkl]; have hfz := Tree.St.thin (Y := X) (by have hq := (H17.front (is := [(Tree.It.fz (X ++ N))]) (.cons PP (.nil _))); simp only [List.cons_append, List.nil_append] at hq; exact hq) (fun y hy => List.mem_append_left _ hy); exact ⟨_, _, rfl, ⟨X, (.slice A1 X.length c1), (.slice A2 X.length c2), ⟨rfl, hX⟩, rfl, rfl⟩, (hfz.only (is := [It.row 26 35 (.slice A1 X.length c1) X.length (Inbox.bc X), It.row 23 32 (.slice A2 X.length c2) X.length (hc (Tree.hashes (Tree.bl X))), It.blk c 77 [(.slice A1 X.length c1), (.slice A2 X.length c2), i64 dp, i64 de], (Tree.It.fz X)]) (.cons PP (.cons PP (.cons PP (.cons PP (.nil _)))))).sep⟩) | (have hz0 := Tree.turn_neg (c := (⟨Tree.bl X, dp, de⟩ : Tree.Chain)) (u := under) (bs := Tree.itl bs) (salt := salt) hn1; rw [hz0]; exact ⟨_, _, rfl, ⟨X, (.slice A1 X.length c1), (.slice A2 X.length c2), ⟨rfl, hX⟩, rfl, rfl⟩, (H17.only (is := [It.row 26 35 (.slice A1 X.length c1) X.length (Inbox.bc X), It.row 23 32 (.slice A2 X.length c2) X.length (hc (Tree.hashes (Tree.bl X))), It.blk c 77 [(.slice A1 X.length c1), (.slice A2 X.length c2), i64 dp, i64 de], (Tree.It.fz X)]) (.cons PP (.cons PP (.cons PP (.cons PP (.nil _)))))).sep⟩) | (have hz0 := Tree.turn_deepR (c := (⟨Tree.bl X, dp, de⟩ : Tree.Chain)) (u := under) (bs := Tree.itl bs) (salt := salt) hn2 (by rw [hhe]; omega); rw [hz0]; exact ⟨_, _, rfl, ⟨X, (.slice A1 X.length c1), (.slice A2 X.length c2), ⟨rfl, hX⟩, rfl, rfl⟩, (H17.only (is := [It.row 26 35 (.slice A1 X.length c1) X.length (Inbox.bc X), It.row 23 32 (.slice A2 X.length c2) X.length (hc (Tree.hashes (Tree.bl X))), It.blk c 77 [(.slice A1 X.length c1), (.slice A2 X.length c2), i64 dp, i64 de], (Tree.It.fz X)]) (.cons PP (.cons PP (.cons PP (.cons PP (.nil _)))))).sep⟩) | (have hz0 := Tree.turn_few (c := (⟨Tree.bl X, dp, de⟩ : Tree.Chain)) (u := under) (bs := Tree.itl bs) (salt := salt) hn2 (by rw [hhe]; omega) (by rw [hil]; omega); rw [hz0]; exact ⟨_, _, rfl, ⟨X, (.slice A1 X.length c1), (.slice A2 X.length c2), ⟨rfl, hX⟩, rfl, rfl⟩, (H17.only (is := [It.row 26 35 (.slice A1 X.length c1) X.length (Inbox.bc X), It.row 23 32 (.slice A2 X.length c2) X.length (hc (Tree.hashes (Tree.bl X))), It.blk c 77 [(.slice A1 X.length c1), (.slice A2 X.length c2), i64 dp, i64 de], (Tree.It.fz X)]) (.cons PP (.cons PP (.cons PP (.cons PP (.nil _)))))).sep⟩) | (have hz0 := Tree.turn_full (c := (⟨Tree.bl X, dp, de⟩ : Tree.Chain)) (u := under) (bs := Tree.itl bs) (salt := salt) hn2 (by rw [hhe]; omega) (by rw [hil]; omega) (by rw [hhe, hil]; omega); rw [hz0]; exact ⟨_, _, rfl, ⟨X, (.slice A1 X.length c1), (.slice A2 X.length c2), ⟨rfl, hX⟩, rfl, rfl⟩, (H17.only (is := [It.row 26 35 (.slice A1 X.length c1) X.length (Inbox.bc X), It.row 23 32 (.slice A2 X.length c2) X.length (hc (Tree.hashes (Tree.bl X))), It.blk c 77 [(.slice A1 X.length c1), (.slice A2 X.length c2), i64 dp, i64 de], (Tree.It.fz X)]) (.cons PP (.cons PP (.cons PP (.cons PP (.nil _)))))).sep⟩)
  ·skip
   try simp only [decide_eq_true_eq, decide_eq_false_iff_not, Bool.not_eq_true', Bool.not_eq_false', Bool.and_eq_true, Bool.not_eq_true, Bool.not_eq_false] at hc16
   have hd2 := hc16
   refine wp_seq ?_
   refine reg ?_
   refine plain (y_move rfl rfl) rfl rfl rfl H15 ?_
   clear H15; intro a18 H18
   refine plain (y_len rfl Tryd.underlying37 rfl) rfl rfl rfl H18 ?_
   clear H18; intro a19 H19
   refine plain (y_move rfl rfl) rfl rfl rfl H19 ?_
   clear H19; intro a20 H20
   refine plain (y_leq rfl rfl rfl) rfl rfl rfl H20 ?_
   clear H20; intro a21 H21
   refine plain (y_assign rfl rfl) rfl rfl rfl H21 ?_
   clear H21; intro a22 H22
   refine fin ?_
   refine then_n ?_
   refine cnd H22 rfl (fun hc23 => ?_) (fun hc23 => ?_) -- cond 4
   ·skip
    try simp only [decide_eq_true_eq, decide_eq_false_iff_not, Bool.not_eq_true', Bool.not_eq_false', Bool.and_eq_true, Bool.not_eq_true, Bool.not_eq_false] at hc23
    have hf1 := hc23
    refine wp_seq ?_
    refine reg ?_
    refine plain (y_assign rfl rfl) rfl rfl rfl H22 ?_
    clear H22; intro a24 H24
    refine fin ?_
    refine then_n ?_
    refine wp_ret ?_
    refine inb_r ?_
    refine then_r ?_
    -- return 3
    refine ret1 rfl H24 rfl ?_
    first | (have hz9 := hFA2; have hz0 := Tree.turn_good (c := (⟨Tree.bl X, dp, de⟩ : Tree.Chain)) (u := under) (bs := Tree.itl bs) (salt := salt) (by omega) (by rw [hhe]; omega) (by rw [hil]; omega) (by rw [hhe, hil]; omega) hFA2; rw [hz0]; have hfz := Tree.St.thin (Y := Y) (by have hq := (H24.front (is := [(Tree.It.fz (X ++ N))]) (.cons PP (.nil _))); simp only [List.cons_append, List.nil_append] at hq; exact hq) (fun y hy => by rw [← hYe] at hy; rcases List.mem_append.1 hy with hy | hy; exact List.mem_append_left _ (List.mem_of_mem_take hy); exact List.mem_append_right _ hy); exact ⟨_, _, rfl, ⟨Y, (.slice A3 Y.length c3), (.slice A4 Y.length c4), ⟨hFA.1, hY⟩, rfl, rfl⟩, (hfz.only (is := [It.row 26 35 (.slice A3 Y.length c3) Y.length (Inbox.bc Y), It.row 23 32 (.slice A4 Y.length c4) Y.length (hc (Tree.hashes (Tree.bl Y))), It.blk c 77 [(.slice A3 Y.length c3), (.slice A4 Y.length c4), i64 dp, i64 (max de under)], (Tree.It.fz Y)]) (.cons PP (.cons PP (.cons PP (.cons PP (.nil _)))))).sep⟩) | (have hz9 := hw1; have hz1 := Tree.far_fall hF (by rw [hil]; omega) (by rw [Tree.itl_at hkl]; exact hw1); have hz0 := Tree.turn_bad (c := (⟨Tree.bl X, dp, de⟩ : Tree.Chain)) (u := under) (bs := Tree.itl bs) (salt := salt) (by omega) (by rw [hhe]; omega) (by rw [hil]; omega) (by rw [hhe, hil]; omega) (by rw [hz1, Tree.itl_at hkl]; exact hw1); rw [hz0, hz1, Tree.itl_at hkl]; have hfz := Tree.St.thin (Y := X) (by have hq := (H24.front (is := [(Tree.It.fz (X ++ N))]) (.cons PP (.nil _))); simp only [List.cons_append, List.nil_append] at hq; exact hq) (fun y hy => List.mem_append_left _ hy); exact ⟨_, _, rfl, ⟨X, (.slice A1 X.length c1), (.slice A2 X.length c2), ⟨rfl, hX⟩, rfl, rfl⟩, (hfz.only (is := [It.row 26 35 (.slice A1 X.length c1) X.length (Inbox.bc X), It.row 23 32 (.slice A2 X.length c2) X.length (hc (Tree.hashes (Tree.bl X))), It.blk c 77 [(.slice A1 X.length c1), (.slice A2 X.length c2), i64 dp, i64 de], (Tree.It.fz X)]) (.cons PP (.cons PP (.cons PP (.cons PP (.nil _)))))).sep⟩) | (have hz0 := Tree.turn_neg (c := (⟨Tree.bl X, dp, de⟩ : Tree.Chain)) (u := under) (bs := Tree.itl bs) (salt := salt) hn1; rw [hz0]; exact ⟨_, _, rfl, ⟨X, (.slice A1 X.length c1), (.slice A2 X.length c2), ⟨rfl, hX⟩, rfl, rfl⟩, (H24.only (is := [It.row 26 35 (.slice A1 X.length c1) X.length (Inbox.bc X), It.row 23 32 (.slice A2 X.length c2) X.length (hc (Tree.hashes (Tree.bl X))), It.blk c 77 [(.slice A1 X.length c1), (.slice A2 X.length c2), i64 dp, i64 de], (Tree.It.fz X)]) (.cons PP (.cons PP (.cons PP (.cons PP (.nil _)))))).sep⟩) | (have hz0 := Tree.turn_deepR (c := (⟨Tree.bl X, dp, de⟩ : Tree.Chain)) (u := under) (bs := Tree.itl bs) (salt := salt) hn2 (by rw [hhe]; omega); rw [hz0]; exact ⟨_, _, rfl, ⟨X, (.slice A1 X.length c1), (.slice A2 X.length c2), ⟨rfl, hX⟩, rfl, rfl⟩, (H24.only (is := [It.row 26 35 (.slice A1 X.length c1) X.length (Inbox.bc X), It.row 23 32 (.slice A2 X.length c2) X.length (hc (Tree.hashes (Tree.bl X))), It.blk c 77 [(.slice A1 X.length c1), (.slice A2 X.length c2), i64 dp, i64 de], (Tree.It.fz X)]) (.cons PP (.cons PP (.cons PP (.cons PP (.nil _)))))).sep⟩) | (have hz0 := Tree.turn_few (c := (⟨Tree.bl X, dp, de⟩ : Tree.Chain)) (u := under) (bs := Tree.itl bs) (salt := salt) hn2 (by rw [hhe]; omega) (by rw [hil]; omega); rw [hz0]; exact ⟨_, _, rfl, ⟨X, (.slice A1 X.length c1), (.slice A2 X.length c2), ⟨rfl, hX⟩, rfl, rfl⟩, (H24.only (is := [It.row 26 35 (.slice A1 X.length c1) X.length (Inbox.bc X), It.row 23 32 (.slice A2 X.length c2) X.length (hc (Tree.hashes (Tree.bl X))), It.blk c 77 [(.slice A1 X.length c1), (.slice A2 X.length c2), i64 dp, i64 de], (Tree.It.fz X)]) (.cons PP (.cons PP (.cons PP (.cons PP (.nil _)))))).sep⟩) | (have hz0 := Tree.turn_full (c := (⟨Tree.bl X, dp, de⟩ : Tree.Chain)) (u := under) (bs := Tree.itl bs) (salt := salt) hn2 (by rw [hhe]; omega) (by rw [hil]; omega) (by rw [hhe, hil]; omega); rw [hz0]; exact ⟨_, _, rfl, ⟨X, (.slice A1 X.length c1), (.slice A2 X.length c2), ⟨rfl, hX⟩, rfl, rfl⟩, (H24.only (is := [It.row 26 35 (.slice A1 X.length c1) X.length (Inbox.bc X), It.row 23 32 (.slice A2 X.length c2) X.length (hc (Tree.hashes (Tree.bl X))), It.blk c 77 [(.slice A1 X.length c1), (.slice A2 X.length c2), i64 dp, i64 de], (Tree.It.fz X)]) (.cons PP (.cons PP (.cons PP (.cons PP (.nil _)))))).sep⟩)
   ·skip
    try simp only [decide_eq_true_eq, decide_eq_false_iff_not, Bool.not_eq_true', Bool.not_eq_false', Bool.and_eq_true, Bool.not_eq_true, Bool.not_eq_false] at hc23
    have hf2 := hc23
    refine wp_seq ?_
    refine reg ?_
    refine plain (y_move rfl rfl) rfl rfl rfl H22 ?_
    clear H22; intro a25 H25
    refine plain (y_len rfl Tryd.underlying37 rfl) rfl rfl rfl H25 ?_
    clear H25; intro a26 H26
    refine plain (y_move rfl rfl) rfl rfl rfl H26 ?_
    clear H26; intro a27 H27
    refine st_callg rfl z_call21 rfl rfl rfl rfl H27 (theight X hX h0 hlen dp de c (.slice A1 X.length c1) (.slice A2 X.length c2) (H27.sep.all _ MM) (H27.sep.all _ MM)) ?_
    clear H27; intro a28 wx28 H28
    refine plain (y_move rfl rfl) rfl rfl rfl H28 ?_
    clear H28; intro a29 H29
    refine plain (y_sub rfl rfl rfl (by first | exact w64 (by omega) (by omega) | rfl)) rfl rfl rfl H29 ?_
    clear H29; intro a30 H30
    refine plain (y_sub rfl rfl rfl (by first | exact w64 (by omega) (by omega) | rfl)) rfl rfl rfl H30 ?_
    clear H30; intro a31 H31
    refine plain (y_gtr rfl rfl rfl) rfl rfl rfl H31 ?_
    clear H31; intro a32 H32
    refine plain (y_assign rfl rfl) rfl rfl rfl H32 ?_
    clear H32; intro a33 H33
    refine fin ?_
    refine then_n ?_
    refine cnd H33 rfl (fun hc34 => ?_) (fun hc34 => ?_) -- cond 5
    ·skip
     try simp only [decide_eq_true_eq, decide_eq_false_iff_not, Bool.not_eq_true', Bool.not_eq_false', Bool.and_eq_true, Bool.not_eq_true, Bool.not_eq_false] at hc34
     have hu1 := hc34
     refine wp_seq ?_
     refine reg ?_
     refine plain (y_assign rfl rfl) rfl rfl rfl H33 ?_
     clear H33; intro a35 H35
     refine fin ?_
     refine then_n ?_
     refine wp_ret ?_
     refine inb_r ?_
     refine then_r ?_
     -- return 4
     refine ret1 rfl H35 rfl ?_
     first | (have hz9 := hFA2; have hz0 := Tree.turn_good (c := (⟨Tree.bl X, dp, de⟩ : Tree.Chain)) (u := under) (bs := Tree.itl bs) (salt := salt) (by omega) (by rw [hhe]; omega) (by rw [hil]; omega) (by rw [hhe, hil]; omega) hFA2; rw [hz0]; have hfz := Tree.St.thin (Y := Y) (by have hq := (H35.front (is := [(Tree.It.fz (X ++ N))]) (.cons PP (.nil _))); simp only [List.cons_append, List.nil_append] at hq; exact hq) (fun y hy => by rw [← hYe] at hy; rcases List.mem_append.1 hy with hy | hy; exact List.mem_append_left _ (List.mem_of_mem_take hy); exact List.mem_append_right _ hy); exact ⟨_, _, rfl, ⟨Y, (.slice A3 Y.length c3), (.slice A4 Y.length c4), ⟨hFA.1, hY⟩, rfl, rfl⟩, (hfz.only (is := [It.row 26 35 (.slice A3 Y.length c3) Y.length (Inbox.bc Y), It.row 23 32 (.slice A4 Y.length c4) Y.length (hc (Tree.hashes (Tree.bl Y))), It.blk c 77 [(.slice A3 Y.length c3), (.slice A4 Y.length c4), i64 dp, i64 (max de under)], (Tree.It.fz Y)]) (.cons PP (.cons PP (.cons PP (.cons PP (.nil _)))))).sep⟩) | (have hz9 := hw1; have hz1 := Tree.far_fall hF (by rw [hil]; omega) (by rw [Tree.itl_at hkl]; exact hw1); have hz0 := Tree.turn_bad (c := (⟨Tree.bl X, dp, de⟩ : Tree.Chain)) (u := under) (bs := Tree.itl bs) (salt := salt) (by omega) (by rw [hhe]; omega) (by rw [hil]; omega) (by rw [hhe, hil]; omega) (by rw [hz1, Tree.itl_at hkl]; exact hw1); rw [hz0, hz1, Tree.itl_at hkl]; have hfz := Tree.St.thin (Y := X) (by have hq := (H35.front (is := [(Tree.It.fz (X ++ N))]) (.cons PP (.nil _))); simp only [List.cons_append, List.nil_append] at hq; exact hq) (fun y hy => List.mem_append_left _ hy); exact ⟨_, _, rfl, ⟨X, (.slice A1 X.length c1), (.slice A2 X.length c2), ⟨rfl, hX⟩, rfl, rfl⟩, (hfz.only (is := [It.row 26 35 (.slice A1 X.length c1) X.length (Inbox.bc X), It.row 23 32 (.slice A2 X.length c2) X.length (hc (Tree.hashes (Tree.bl X))), It.blk c 77 [(.slice A1 X.length c1), (.slice A2 X.length c2), i64 dp, i64 de], (Tree.It.fz X)]) (.cons PP (.cons PP (.cons PP (.cons PP (.nil _)))))).sep⟩) | (have hz0 := Tree.turn_neg (c := (⟨Tree.bl X, dp, de⟩ : Tree.Chain)) (u := under) (bs := Tree.itl bs) (salt := salt) hn1; rw [hz0]; exact ⟨_, _, rfl, ⟨X, (.slice A1 X.length c1), (.slice A2 X.length c2), ⟨rfl, hX⟩, rfl, rfl⟩, (H35.only (is := [It.row 26 35 (.slice A1 X.length c1) X.length (Inbox.bc X), It.row 23 32 (.slice A2 X.length c2) X.length (hc (Tree.hashes (Tree.bl X))), It.blk c 77 [(.slice A1 X.length c1), (.slice A2 X.length c2), i64 dp, i64 de], (Tree.It.fz X)]) (.cons PP (.cons PP (.cons PP (.cons PP (.nil _)))))).sep⟩) | (have hz0 := Tree.turn_deepR (c := (⟨Tree.bl X, dp, de⟩ : Tree.Chain)) (u := under) (bs := Tree.itl bs) (salt := salt) hn2 (by rw [hhe]; omega); rw [hz0]; exact ⟨_, _, rfl, ⟨X, (.slice A1 X.length c1), (.slice A2 X.length c2), ⟨rfl, hX⟩, rfl, rfl⟩, (H35.only (is := [It.row 26 35 (.slice A1 X.length c1) X.length (Inbox.bc X), It.row 23 32 (.slice A2 X.length c2) X.length (hc (Tree.hashes (Tree.bl X))), It.blk c 77 [(.slice A1 X.length c1), (.slice A2 X.length c2), i64 dp, i64 de], (Tree.It.fz X)]) (.cons PP (.cons PP (.cons PP (.cons PP (.nil _)))))).sep⟩) | (have hz0 := Tree.turn_few (c := (⟨Tree.bl X, dp, de⟩ : Tree.Chain)) (u := under) (bs := Tree.itl bs) (salt := salt) hn2 (by rw [hhe]; omega) (by rw [hil]; omega); rw [hz0]; exact ⟨_, _, rfl, ⟨X, (.slice A1 X.length c1), (.slice A2 X.length c2), ⟨rfl, hX⟩, rfl, rfl⟩, (H35.only (is := [It.row 26 35 (.slice A1 X.length c1) X.length (Inbox.bc X), It.row 23 32 (.slice A2 X.length c2) X.length (hc (Tree.hashes (Tree.bl X))), It.blk c 77 [(.slice A1 X.length c1), (.slice A2 X.length c2), i64 dp, i64 de], (Tree.It.fz X)]) (.cons PP (.cons PP (.cons PP (.cons PP (.nil _)))))).sep⟩) | (have hz0 := Tree.turn_full (c := (⟨Tree.bl X, dp, de⟩ : Tree.Chain)) (u := under) (bs := Tree.itl bs) (salt := salt) hn2 (by rw [hhe]; omega) (by rw [hil]; omega) (by rw [hhe, hil]; omega); rw [hz0]; exact ⟨_, _, rfl, ⟨X, (.slice A1 X.length c1), (.slice A2 X.length c2), ⟨rfl, hX⟩, rfl, rfl⟩, (H35.only (is := [It.row 26 35 (.slice A1 X.length c1) X.length (Inbox.bc X), It.row 23 32 (.slice A2 X.length c2) X.length (hc (Tree.hashes (Tree.bl X))), It.blk c 77 [(.slice A1 X.length c1), (.slice A2 X.length c2), i64 dp, i64 de], (Tree.It.fz X)]) (.cons PP (.cons PP (.cons PP (.cons PP (.nil _)))))).sep⟩)
    ·skip
     try simp only [decide_eq_true_eq, decide_eq_false_iff_not, Bool.not_eq_true', Bool.not_eq_false', Bool.and_eq_true, Bool.not_eq_true, Bool.not_eq_false] at hc34
     have hu2 := hc34
     refine wp_skip ?_
     refine inb_n ?_
     refine then_n ?_
     refine wp_seq ?_
     refine reg ?_
     refine plain (y_move rfl rfl) rfl rfl rfl H33 ?_
     clear H33; intro a36 H36
     refine st_callg rfl z_call21 rfl rfl rfl rfl H36 (theight X hX h0 hlen dp de c (.slice A1 X.length c1) (.slice A2 X.length c2) (H36.sep.all _ MM) (H36.sep.all _ MM)) ?_
     clear H36; intro a37 wx37 H37
     refine plain (y_move rfl rfl) rfl rfl rfl H37 ?_
     clear H37; intro a38 H38
     refine plain (y_sub rfl rfl rfl (by first | exact w64 (by omega) (by omega) | rfl)) rfl rfl rfl H38 ?_
     clear H38; intro a39 H39
     refine plain (y_assign rfl rfl) rfl rfl rfl H39 ?_
     clear H39; intro a40 H40
     refine fin ?_
     refine then_n ?_
     refine wp_seq ?_
     refine reg ?_
     refine st_buildSlice rfl Tryd.underlying36 z_size26 z_zero26 rfl rfl rfl (show _ = some ([] : List Value) from rfl) rfl rfl rfl H40 ?_
     clear H40; intro b41 a41 wx41 H41
     refine plain (y_move rfl rfl) rfl rfl rfl H41 ?_
     clear H41; intro a42 H42
     refine plain (y_nilCheck rfl rfl) rfl rfl rfl H42 ?_
     clear H42; intro a43 H43
     refine plain (y_fieldB rfl z_field77_0 rfl (by first | (simp only [Nat.zero_add, Nat.add_zero, Nat.reduceAdd]; rfl) | rfl)) rfl rfl rfl H43 ?_
     clear H43; intro a44 H44
     refine plain (y_loadB rfl z_agg36 rfl MM q_ix_c4_0) rfl rfl rfl H44 ?_
     clear H44; intro a45 H45
     refine plain (y_move rfl rfl) rfl rfl rfl H45 ?_
     clear H45; intro a46 H46
     refine plain (y_add rfl rfl rfl (by first | exact w64 (by omega) (by omega) | rfl)) rfl rfl rfl H46 ?_
     clear H46; intro a47 H47
     refine plain (y_slS_hi rfl Tryd.underlying36 z_size26 rfl rfl (by omega) (by omega) (by omega)) rfl rfl rfl H47 ?_
     clear H47; intro a48 H48
     replace H48 := H48.asRow (b := b41) (size := 35) (m := 0) UU rfl (by unfold maxLen; omega)
     refine st_append rfl z_slice36 z_notint36 rfl rfl (fun _ => UU) (fun w hs => Src.slice ((fun w hs => Tree.rd_pre hX (rd_row MM w hs) ((X.length : Int) - 1 - under + 1).toNat) w hs) (by rw [Tree.bc_len (hX.take _), List.length_take, Nat.min_eq_left (show ((X.length : Int) - 1 - under + 1).toNat ≤ X.length by omega)]) (Inbox.bc_cell _)) (by unfold maxLen at *; omega) (by omega) rfl rfl rfl H48 ?_
     clear H48; intro v49 a49 wx49 hnil49 H49
     obtain ⟨ArP, crP, hvrP, hRrP, hmrP⟩ := row_shape (v := v49) H49.sep MM
     subst hvrP
     simp only [List.nil_append, Nat.zero_add] at H49
     refine plain (y_assign rfl rfl) rfl rfl rfl H49 ?_
     clear H49; intro a50 H50
     refine fin ?_
     refine then_n ?_
     refine wp_seq ?_
     refine reg ?_
     refine st_buildSlice rfl Tryd.underlying75 z_size23 z_zero23 rfl rfl rfl (show _ = some ([] : List Value) from rfl) rfl rfl rfl H50 ?_
     clear H50; intro b51 a51 wx51 H51
     refine plain (y_move rfl rfl) rfl rfl rfl H51 ?_
     clear H51; intro a52 H52
     refine plain (y_nilCheck rfl rfl) rfl rfl rfl H52 ?_
     clear H52; intro a53 H53
     refine plain (y_fieldB rfl z_field77_1 rfl (by first | (simp only [Nat.zero_add, Nat.add_zero, Nat.reduceAdd]; rfl) | rfl)) rfl rfl rfl H53 ?_
     clear H53; intro a54 H54
     refine plain (y_loadB rfl z_agg75 rfl MM q_ix_c4_1) rfl rfl rfl H54 ?_
     clear H54; intro a55 H55
     refine plain (y_move rfl rfl) rfl rfl rfl H55 ?_
     clear H55; intro a56 H56
     refine plain (y_add rfl rfl rfl (by first | exact w64 (by omega) (by omega) | rfl)) rfl rfl rfl H56 ?_
     clear H56; intro a57 H57
     refine plain (y_slS_hi rfl Tryd.underlying75 z_size23 rfl rfl (by omega) (by omega) (by omega)) rfl rfl rfl H57 ?_
     clear H57; intro a58 H58
     replace H58 := H58.asRow (b := b51) (size := 32) (m := 0) UU rfl (by unfold maxLen; omega)
     refine st_append rfl z_slice75 z_notint75 rfl rfl (fun _ => UU) (fun w hs => Src.slice ((fun w hs => Tree.rd_preh (rd_row MM w hs) ((X.length : Int) - 1 - under + 1).toNat) w hs) (by rw [Tree.hc_hs, List.length_take, Nat.min_eq_left (show ((X.length : Int) - 1 - under + 1).toNat ≤ X.length by omega)]) (hc_cell _)) (by unfold maxLen at *; omega) (by omega) rfl rfl rfl H58 ?_
     clear H58; intro v59 a59 wx59 hnil59 H59
     obtain ⟨ArQ, crQ, hvrQ, hRrQ, hmrQ⟩ := row_shape (v := v59) H59.sep MM
     subst hvrQ
     simp only [List.nil_append, Nat.zero_add] at H59
     refine plain (y_assign rfl rfl) rfl rfl rfl H59 ?_
     clear H59; intro a60 H60
     refine fin ?_
     refine then_n ?_
     refine wp_seq ?_
     refine wp_seq ?_
     refine reg ?_
     refine plain (y_move rfl rfl) rfl rfl rfl H60 ?_
     clear H60; intro a61 H61
     refine plain (y_len rfl Tryd.underlying37 rfl) rfl rfl rfl H61 ?_
     clear H61; intro a62 H62
     refine plain (y_move rfl rfl) rfl rfl rfl H62 ?_
     clear H62; intro a63 H63
     refine fin ?_
     refine then_n ?_
     refine wp_block ?_
     have hn : ((X.length : Int) - 1 - under + 1).toNat = X.length - under.toNat := by omega
     rw [hn] at H63
     have hT0 : (X.take (X.length - under.toNat)).length = X.length - under.toNat := by rw [List.length_take]; omega
     replace H63 := (H63.only (is := [It.row 26 35 (.slice ArP (X.length - under.toNat) crP) (X.length - under.toNat) (Inbox.bc (X.take (X.length - under.toNat))), It.row 23 32 (.slice ArQ (X.length - under.toNat) crQ) (X.length - under.toNat) (hc (Tree.hashes (Tree.bl (X.take (X.length - under.toNat))))), (Tree.It.fz X), It.row 26 35 (.slice A1 X.length c1) X.length (Inbox.bc X), It.row 23 32 (.slice A2 X.length c2) X.length (hc (Tree.hashes (Tree.bl X))), It.blk c 77 [(.slice A1 X.length c1), (.slice A2 X.length c2), i64 dp, i64 de]]) (.cons PP (.cons PP (.cons PP (.cons PP (.cons PP (.cons PP (.nil _))))))))
     refine loop (ι := Nat × (List Inbox.BA × (Value × Value))) (fun y => [(0, .pointer (some ⟨c, 0, none⟩)), (1, .int .i64 under), (3, .int .i64 salt), (8, .int .i64 0), (9, .int .i64 ((X.length : Int) - 1 - under)), (10, y.2.2.1), (11, y.2.2.2), (64, .slice D bs.length cd), (65, .int .i64 (bs.length : Int)), (66, .int .i64 (y.1 : Int))]) (fun y => [It.row 26 35 y.2.2.1 ((X.take (X.length - under.toNat)) ++ y.2.1).length (Inbox.bc ((X.take (X.length - under.toNat)) ++ y.2.1)), It.row 23 32 y.2.2.2 ((X.take (X.length - under.toNat)) ++ y.2.1).length (hc (Tree.hashes (Tree.bl ((X.take (X.length - under.toNat)) ++ y.2.1)))), (Tree.It.fz (X ++ y.2.1)), It.row 26 35 (.slice A1 X.length c1) X.length (Inbox.bc X), It.row 23 32 (.slice A2 X.length c2) X.length (hc (Tree.hashes (Tree.bl X))), It.blk c 77 [(.slice A1 X.length c1), (.slice A2 X.length c2), i64 dp, i64 de]]) (fun y => y.1 ≤ bs.length ∧ Tree.Far ((Tree.bl X).take ((Tree.bl X).length - under.toNat)) salt (Tree.itl bs) y.1 ((X.take (X.length - under.toNat)) ++ y.2.1) ∧ Tree.Wfs y.2.1) (fun y => bs.length - y.1) ((0, (([] : List Inbox.BA), ((.slice ArP (X.length - under.toNat) crP : Value), (.slice ArQ (X.length - under.toNat) crQ : Value))))) ⟨Nat.zero_le _, Tree.far_0 (by dsimp only; rw [List.append_nil, Tree.bl_take, hbl]), fun _ hq => absurd hq (by simp)⟩ (H63.weak ⟨rfl, rfl, rfl, rfl, rfl, rfl, rfl, rfl, rfl, rfl, trivial⟩ (by dsimp only; rw [List.append_nil, List.append_nil, hT0])) ?_
     clear H63; intro y a64 wx64 hok64 H64
     obtain ⟨k, N, vy, uy⟩ := y
     dsimp only at hok64 H64
     obtain ⟨hk, hF, hN⟩ := hok64
     have hYl := Tree.far_len hF (by rw [hil]; exact hk)
     rw [List.length_take, hbl] at hYl
     have hY : Tree.Wfs ((X.take (X.length - under.toNat)) ++ N) := (hX.take _).app hN
     generalize hYe : (X.take (X.length - under.toNat)) ++ N = Y at hF hYl hY H64
     obtain ⟨A3, c3, rfl, hR3, hm3⟩ := row_shape (v := vy) H64.sep MM
     obtain ⟨A4, c4, rfl, hR4, hm4⟩ := row_shape (v := uy) H64.sep MM
     refine wp_seq ?_
     refine reg ?_
     refine plain (y_lss rfl rfl rfl) rfl rfl rfl H64 ?_
     clear H64; intro a65 H65
     refine fin ?_
     refine then_n ?_
     refine wp_seq ?_
     refine cnd H65 rfl (fun hc66 => ?_) (fun hc66 => ?_) -- cond 6
     ·skip
      try simp only [decide_eq_true_eq, decide_eq_false_iff_not, Bool.not_eq_true', Bool.not_eq_false', Bool.and_eq_true, Bool.not_eq_true, Bool.not_eq_false] at hc66
      refine wp_skip ?_
      refine then_n ?_
      refine wp_seq ?_
      refine wp_block ?_
      refine wp_seq ?_
      have hkl : k < bs.length := by omega
      have hbm := Inbox.memD Tree.IA.zero hkl
      have hwq := hbs _ hbm
      refine reg ?_
      refine plain (y_move rfl rfl) rfl rfl rfl H65 ?_
      clear H65; intro a67 H67
      refine plain (y_ixR rfl Tryd.underlying37 z_size24 rfl rfl (by omega) (by omega) (fun w' hs' => hK.at_ hs') (by first | (rw [Tree.iac_len]; omega) | (rw [Tree.hc_hs]; omega))) rfl rfl rfl H67 ?_
      clear H67; intro a68 H68
      refine plain (y_loadR rfl z_agg24 rfl (fun w' hs' => hK.at_ hs') (by rw [Nat.mul_one]; exact Tree.iac_at hkl)) rfl rfl rfl H68 ?_
      clear H68; intro a69 H69
      refine plain (y_assign rfl rfl) rfl rfl rfl H69 ?_
      clear H69; intro a70 H70
      refine plain (y_assign rfl rfl) rfl rfl rfl H70 ?_
      clear H70; intro a71 H71
      refine fin ?_
      refine then_n ?_
      refine wp_seq ?_
      refine reg ?_
      refine plain (y_move rfl rfl) rfl rfl rfl H71 ?_
      clear H71; intro a72 H72
      refine plain (y_add rfl rfl rfl (by first | exact w64 (by omega) (by omega) | rfl)) rfl rfl rfl H72 ?_
      clear H72; intro a73 H73
      refine plain (y_move rfl rfl) rfl rfl rfl H73 ?_
      clear H73; intro a74 H74
      refine plain (y_add rfl rfl rfl (by first | exact w64 (by omega) (by omega) | rfl)) rfl rfl rfl H74 ?_
      clear H74; intro a75 H75
      refine plain (y_move rfl rfl) rfl rfl rfl H75 ?_
      clear H75; intro a76 H76
      refine plain (y_move rfl rfl) rfl rfl rfl H76 ?_
      clear H76; intro a77 H77
      refine plain (y_move rfl rfl) rfl rfl rfl H77 ?_
      clear H77; intro a78 H78
      refine plain (y_add rfl rfl rfl (by first | exact w64 (by omega) (by omega) | rfl)) rfl rfl rfl H78 ?_
      clear H78; intro a79 H79
      refine plain (y_ixR rfl Tryd.underlying75 z_size23 rfl rfl (by omega) (by omega) (rd_row MM) (by first | (rw [Tree.iac_len]; omega) | (rw [Tree.hc_hs]; omega))) rfl rfl rfl H79 ?_
      clear H79; intro a80 H80
      refine plain (y_loadAS rfl z_agg23 z_size23 rfl (rd_row MM) (show _ = ((Tree.hashes (Tree.bl Y)).getD ((X.length : Int) - 1 - under + (k : Int)).toNat []).map u8 from hc_take _ (Tree.hashes_h _) (by rw [Tree.hashes_len, Tree.bl_len]; omega)) (by rw [List.length_map]; exact (Tree.hashes_h _).getD (by rw [Tree.hashes_len, Tree.bl_len]; omega)) (by decide)) rfl rfl rfl H80 ?_
      clear H80; intro a81 H81
      refine plain (y_move rfl rfl) rfl rfl rfl H81 ?_
      clear H81; intro a82 H82
      refine plain (y_move rfl rfl) rfl rfl rfl H82 ?_
      clear H82; intro a83 H83
      replace H83 := H83.know (d := 75) rfl (congrArg (Value.int .i64) (show (X.length : Int) - 1 - under + 1 + (k : Int) = ((Tree.bl Y).length : Int) by rw [Tree.bl_len]; omega))
      replace H83 := H83.know (d := 81) rfl (show _ = Value.agg ((Tree.hash (Tree.last (Tree.bl Y))).1.map u8).toArray by rw [show ((X.length : Int) - 1 - under + (k : Int)).toNat = Y.length - 1 by omega, Tree.last_at (by omega)])
      refine st_call rfl z_call39 rfl rfl rfl rfl H83 (tnext ((Tree.bl Y).length : Int) salt (by rw [Tree.bl_len]; constructor <;> omega) hsa (Tree.hash (Tree.last (Tree.bl Y))).1 (Tree.hash_len _) (bs.getD k Tree.IA.zero).A (bs.getD k Tree.IA.zero).c (bs.getD k Tree.IA.zero).l hwq.items hwq.bytes ((hK2 _ hbm).at_ H83.sep) (hG.frm H83.sep.frm hz)) ?_
      clear H83; intro v84 l84 a84 wx84 hf84 H84
      obtain ⟨A', c', rfl, rfl⟩ := hf84
      simp only [List.cons_append, List.nil_append] at H84
      refine plain (y_move rfl rfl) rfl rfl rfl H84 ?_
      clear H84; intro a85 H85
      refine plain (y_extract rfl rfl rfl) rfl rfl rfl H85 ?_
      clear H85; intro a86 H86
      refine plain (y_extract rfl rfl rfl) rfl rfl rfl H86 ?_
      clear H86; intro a87 H87
      refine plain (y_extract rfl rfl rfl) rfl rfl rfl H87 ?_
      clear H87; intro a88 H88
      refine st_alloc rfl z_zeroN26 rfl rfl rfl H88 ?_
      clear H88; intro b89 a89 wx89 H89
      refine st_alloc rfl z_zeroN23 rfl rfl rfl H89 ?_
      clear H89; intro b90 a90 wx90 H90
      refine st_storeN rfl z_size26 rfl rfl (agg_cells _) UU (q_one_c2b32c1 rfl rfl rfl) (q_len_c2b32c1 (by first | assumption | exact Tree.hash_len _)) (q_len_c2b32c1 (by first | assumption | exact Tree.hash_len _)) (q_spl_c2b32c1_0_c2b32c1 (by first | assumption | exact Tree.hash_len _) (by first | assumption | exact Tree.hash_len _)) (by decide) rfl rfl H90 ?_
      clear H90; intro wx91 H91
      refine st_storeN rfl z_size23 rfl rfl (agg_cells _) UU q_one_b32 (q_len_b32 (by first | assumption | exact Tree.hash_len _)) (q_len_b32 (by first | assumption | exact Tree.hash_len _)) (q_spl_b32_0_b32 (by first | assumption | exact Tree.hash_len _) (by first | assumption | exact Tree.hash_len _)) (by decide) rfl rfl H91 ?_
      clear H91; intro wx92 H92
      refine plain (y_assign rfl rfl) rfl rfl rfl H92 ?_
      clear H92; intro a93 H93
      refine fin ?_
      refine then_n ?_
      refine wp_seq ?_
      refine wp_seq ?_
      refine reg ?_
      refine plain (y_move rfl rfl) rfl rfl rfl H93 ?_
      clear H93; intro a94 H94
      refine plain (y_neq rfl rfl rfl) rfl rfl rfl H94 ?_
      clear H94; intro a95 H95
      refine fin ?_
      refine then_n ?_
      refine cnd H95 rfl (fun hc96 => ?_) (fun hc96 => ?_) -- cond 7
      ·skip
       try simp only [decide_eq_true_eq, decide_eq_false_iff_not, Bool.not_eq_true', Bool.not_eq_false', Bool.and_eq_true, Bool.not_eq_true, Bool.not_eq_false] at hc96
       have hw1 := hc96
       refine wp_seq ?_
       refine reg ?_
       refine plain (y_move rfl rfl) rfl rfl rfl H95 ?_
       clear H95; intro a97 H97
       refine plain (y_assign rfl rfl) rfl rfl rfl H97 ?_
       clear H97; intro a98 H98
       refine fin ?_
       refine then_n ?_
       refine wp_ret ?_
       refine then_r ?_
       refine inb_r ?_
       refine then_r ?_
       refine then_r ?_
       refine inb_r ?_
       refine then_r ?_
       -- return 5
       refine ret1 rfl H98 rfl ?_
       first | (have hz9 := hFA2; have hz0 := Tree.turn_good (c := (⟨Tree.bl X, dp, de⟩ : Tree.Chain)) (u := under) (bs := Tree.itl bs) (salt := salt) (by omega) (by rw [hhe]; omega) (by rw [hil]; omega) (by rw [hhe, hil]; omega) hFA2; rw [hz0]; have hfz := Tree.St.thin (Y := Y) (by have hq := (H98.front (is := [(Tree.It.fz (X ++ N))]) (.cons PP (.nil _))); simp only [List.cons_append, List.nil_append] at hq; exact hq) (fun y hy => by rw [← hYe] at hy; rcases List.mem_append.1 hy with hy | hy; exact List.mem_append_left _ (List.mem_of_mem_take hy); exact List.mem_append_right _ hy); exact ⟨_, _, rfl, ⟨Y, (.slice A3 Y.length c3), (.slice A4 Y.length c4), ⟨hFA.1, hY⟩, rfl, rfl⟩, (hfz.only (is := [It.row 26 35 (.slice A3 Y.length c3) Y.length (Inbox.bc Y), It.row 23 32 (.slice A4 Y.length c4) Y.length (hc (Tree.hashes (Tree.bl Y))), It.blk c 77 [(.slice A3 Y.length c3), (.slice A4 Y.length c4), i64 dp, i64 (max de under)], (Tree.It.fz Y)]) (.cons PP (.cons PP (.cons PP (.cons PP (.nil _)))))).sep⟩) | (have hz9 := hw1; have hz1 := Tree.far_fall hF (by rw [hil]; omega) (by rw [Tree.itl_at hkl]; exact hw1); have hz0 := Tree.turn_bad (c := (⟨Tree.bl X, dp, de⟩ : Tree.Chain)) (u := under) (bs := Tree.itl bs) (salt := salt) (by omega) (by rw [hhe]; omega) (by rw [hil]; omega) (by rw [hhe, hil]; omega) (by rw [hz1, Tree.itl_at hkl]; exact hw1); rw [hz0, hz1, Tree.itl_at hkl]; have hfz := Tree.St.thin (Y := X) (by have hq := (H98.front (is := [(Tree.It.fz (X ++ N))]) (.cons PP (.nil _))); simp only [List.cons_append, List.nil_append] at hq; exact hq) (fun y hy => List.mem_append_left _ hy); exact ⟨_, _, rfl, ⟨X, (.slice A1 X.length c1), (.slice A2 X.length c2), ⟨rfl, hX⟩, rfl, rfl⟩, (hfz.only (is := [It.row 26 35 (.slice A1 X.length c1) X.length (Inbox.bc X), It.row 23 32 (.slice A2 X.length c2) X.length (hc (Tree.hashes (Tree.bl X))), It.blk c 77 [(.slice A1 X.length c1), (.slice A2 X.length c2), i64 dp, i64 de], (Tree.It.fz X)]) (.cons PP (.cons PP (.cons PP (.cons PP (.nil _)))))).sep⟩) | (have hz0 := Tree.turn_neg (c := (⟨Tree.bl X, dp, de⟩ : Tree.Chain)) (u := under) (bs := Tree.itl bs) (salt := salt) hn1; rw [hz0]; exact ⟨_, _, rfl, ⟨X, (.slice A1 X.length c1), (.slice A2 X.length c2), ⟨rfl, hX⟩, rfl, rfl⟩, (H98.only (is := [It.row 26 35 (.slice A1 X.length c1) X.length (Inbox.bc X), It.row 23 32 (.slice A2 X.length c2) X.length (hc (Tree.hashes (Tree.bl X))), It.blk c 77 [(.slice A1 X.length c1), (.slice A2 X.length c2), i64 dp, i64 de], (Tree.It.fz X)]) (.cons PP (.cons PP (.cons PP (.cons PP (.nil _)))))).sep⟩) | (have hz0 := Tree.turn_deepR (c := (⟨Tree.bl X, dp, de⟩ : Tree.Chain)) (u := under) (bs := Tree.itl bs) (salt := salt) hn2 (by rw [hhe]; omega); rw [hz0]; exact ⟨_, _, rfl, ⟨X, (.slice A1 X.length c1), (.slice A2 X.length c2), ⟨rfl, hX⟩, rfl, rfl⟩, (H98.only (is := [It.row 26 35 (.slice A1 X.length c1) X.length (Inbox.bc X), It.row 23 32 (.slice A2 X.length c2) X.length (hc (Tree.hashes (Tree.bl X))), It.blk c 77 [(.slice A1 X.length c1), (.slice A2 X.length c2), i64 dp, i64 de], (Tree.It.fz X)]) (.cons PP (.cons PP (.cons PP (.cons PP (.nil _)))))).sep⟩) | (have hz0 := Tree.turn_few (c := (⟨Tree.bl X, dp, de⟩ : Tree.Chain)) (u := under) (bs := Tree.itl bs) (salt := salt) hn2 (by rw [hhe]; omega) (by rw [hil]; omega); rw [hz0]; exact ⟨_, _, rfl, ⟨X, (.slice A1 X.length c1), (.slice A2 X.length c2), ⟨rfl, hX⟩, rfl, rfl⟩, (H98.only (is := [It.row 26 35 (.slice A1 X.length c1) X.length (Inbox.bc X), It.row 23 32 (.slice A2 X.length c2) X.length (hc (Tree.hashes (Tree.bl X))), It.blk c 77 [(.slice A1 X.length c1), (.slice A2 X.length c2), i64 dp, i64 de], (Tree.It.fz X)]) (.cons PP (.cons PP (.cons PP (.cons PP (.nil _)))))).sep⟩) | (have hz0 := Tree.turn_full (c := (⟨Tree.bl X, dp, de⟩ : Tree.Chain)) (u := under) (bs := Tree.itl bs) (salt := salt) hn2 (by rw [hhe]; omega) (by rw [hil]; omega) (by rw [hhe, hil]; omega); rw [hz0]; exact ⟨_, _, rfl, ⟨X, (.slice A1 X.length c1), (.slice A2 X.length c2), ⟨rfl, hX⟩, rfl, rfl⟩, (H98.only (is := [It.row 26 35 (.slice A1 X.length c1) X.length (Inbox.bc X), It.row 23 32 (.slice A2 X.length c2) X.length (hc (Tree.hashes (Tree.bl X))), It.blk c 77 [(.slice A1 X.length c1), (.slice A2 X.length c2), i64 dp, i64 de], (Tree.It.fz X)]) (.cons PP (.cons PP (.cons PP (.cons PP (.nil _)))))).sep⟩)
      ·skip
       try simp only [decide_eq_true_eq, decide_eq_false_iff_not, Bool.not_eq_true', Bool.not_eq_false', Bool.and_eq_true, Bool.not_eq_true, Bool.not_eq_false] at hc96
       have hw2 := Decidable.not_not.1 hc96
       refine wp_skip ?_
       refine then_n ?_
       have hwB : Tree.W0 (⟨(Tree.behind (Tree.bl Y) (bs.getD k Tree.IA.zero).l salt), A', c'⟩ : Inbox.BA) := ⟨by show Note.I64 ((Tree.bl Y).length : Int); rw [Tree.bl_len]; constructor <;> omega, hsa, Tree.hash_len _, hwq.items, hwq.bytes⟩
       refine hreg [It.blk b90 23 ((Tree.hash (Tree.behind (Tree.bl Y) (bs.getD k Tree.IA.zero).l salt)).1.map u8), It.blk b89 26 (Inbox.BA.cells (⟨(Tree.behind (Tree.bl Y) (bs.getD k Tree.IA.zero).l salt), A', c'⟩ : Inbox.BA))] (fun _ h => h.subA) (by kernel_rfl) H95 ?_
       clear H95; intro wx99 H99
       refine htake 0 rfl (by kernel_rfl) (y_move rfl rfl) rfl rfl rfl (fun _ h => h.subA) H99 ?_
       clear H99; intro a100 H100
       refine htake 1 rfl (by kernel_rfl) (y_loadAB rfl z_agg26 z_size26 rfl MM (q_ld_c2b32c1_0_35 (by first | assumption | exact Tree.hash_len _)) (q_len_c2b32c1 (by first | assumption | exact Tree.hash_len _))) rfl rfl rfl (fun _ h => h.subA) H100 ?_
       clear H100; intro a101 H101
       refine htake 4 rfl (by kernel_rfl) (y_move rfl rfl) rfl rfl rfl (fun _ h => h.subA) H101 ?_
       clear H101; intro a102 H102
       refine htake 5 rfl (by kernel_rfl) (y_loadAB rfl z_agg23 z_size23 rfl MM (q_ld_b32_0_32 (by first | assumption | exact Tree.hash_len _)) (q_len_b32 (by first | assumption | exact Tree.hash_len _))) rfl rfl rfl (fun _ h => h.subA) H102 ?_
       clear H102; intro a103 H103
       refine hgo2 2 6 rfl rfl (by kernel_rfl) ?_ ?_
       ·skip
        refine st_buildSlice rfl Tryd.underlying36 z_size26 z_zero26 rfl rfl rfl (lay_agg (agg_cells _) (Inbox.BA.cells_len (x := (⟨(Tree.behind (Tree.bl Y) (bs.getD k Tree.IA.zero).l salt), A', c'⟩ : Inbox.BA)) (Tree.hash_len _)) rfl) rfl rfl rfl H103 ?_
        clear H103; intro b104 a104 wx104 H104
        refine hfinA H104.sep ?_
        refine hgo2 3 6 rfl rfl (by kernel_rfl) ?_ ?_
        ·skip
         refine st_append rfl z_slice36 z_notint36 rfl rfl (fun _ => UU) (fun w hs => Src.slice ((rd_blkA MM) w hs) (Inbox.BA.cells_len (x := (⟨(Tree.behind (Tree.bl Y) (bs.getD k Tree.IA.zero).l salt), A', c'⟩ : Inbox.BA)) (Tree.hash_len _)) (Tree.ba_cell (⟨(Tree.behind (Tree.bl Y) (bs.getD k Tree.IA.zero).l salt), A', c'⟩ : Inbox.BA))) (by unfold maxLen at *; omega) (by omega) rfl rfl rfl H104 ?_
         clear H104; intro v105 a105 wx105 hnil105 H105
         obtain ⟨ArV, crV, hvrV, hRrV, hmrV⟩ := row_shape (v := v105) H105.sep MM
         subst hvrV
         refine hfinA H105.sep ?_
         refine hgo 6 rfl (by kernel_rfl) ?_
         refine st_buildSlice rfl Tryd.underlying75 z_size23 z_zero23 rfl rfl rfl (lay_agg (agg_cells _) (by rw [List.length_map]; exact Tree.hash_len _) rfl) rfl rfl rfl H105 ?_
         clear H105; intro b106 a106 wx106 H106
         refine hfinA H106.sep ?_
         refine hgo 7 rfl (by kernel_rfl) ?_
         refine st_append rfl z_slice75 z_notint75 rfl rfl (fun _ => UU) (fun w hs => Src.slice ((rd_blkA MM) w hs) (by rw [List.length_map]; exact Tree.hash_len _) (by intro q hq; obtain ⟨y, _, rfl⟩ := List.mem_map.1 hq; rfl)) (by unfold maxLen at *; omega) (by omega) rfl rfl rfl H106 ?_
         clear H106; intro v107 a107 wx107 hnil107 H107
         obtain ⟨ArU, crU, hvrU, hRrU, hmrU⟩ := row_shape (v := v107) H107.sep MM
         subst hvrU
         refine hfinA H107.sep ?_
         refine htake 8 rfl (by kernel_rfl) (y_assign rfl rfl) rfl rfl rfl (fun _ h => h.subA) H107 ?_
         clear H107; intro a108 H108
         refine htake 9 rfl (by kernel_rfl) (y_assign rfl rfl) rfl rfl rfl (fun _ h => h.subA) H108 ?_
         clear H108; intro a109 H109
         refine hdone (by kernel_rfl) ?_
         refine inb_n ?_
         refine then_n ?_
         refine reg ?_
         refine plain (y_add rfl rfl rfl (by first | exact w64 (by omega) (by omega) | rfl)) rfl rfl rfl H109 ?_
         clear H109; intro a110 H110
         refine plain (y_move rfl rfl) rfl rfl rfl H110 ?_
         clear H110; intro a111 H111
         refine fin ?_
         refine then_n ?_
         have hF2 := Tree.far_next hF (x := (⟨(Tree.behind (Tree.bl Y) (bs.getD k Tree.IA.zero).l salt), A', c'⟩ : Inbox.BA)) (by rw [hil]; omega) (by rw [Tree.itl_at hkl]) hw2
         have hYa : (X.take (X.length - under.toNat)) ++ (N ++ [(⟨(Tree.behind (Tree.bl Y) (bs.getD k Tree.IA.zero).l salt), A', c'⟩ : Inbox.BA)]) = Y ++ [(⟨(Tree.behind (Tree.bl Y) (bs.getD k Tree.IA.zero).l salt), A', c'⟩ : Inbox.BA)] := by rw [← List.append_assoc, hYe]
         refine ⟨(k + 1, (N ++ [(⟨(Tree.behind (Tree.bl Y) (bs.getD k Tree.IA.zero).l salt), A', c'⟩ : Inbox.BA)], ((.slice ArV (Y.length + 1) crV : Value), (.slice ArU (Y.length + 1) crU : Value)))), by dsimp only; omega, ⟨by dsimp only; omega, by dsimp only; rw [hYa]; exact hF2, hN.app (Tree.Wfs.one hwB)⟩, ?_⟩
         dsimp only
         rw [← List.append_assoc, hYe, Tree.bc_append, Tree.bc_one, Tree.hs_one, hc_append, hc_one, List.length_append, ← List.append_assoc]
         have hfz0 := (H111.front (is := [It.row 69 4 (.slice A' (bs.getD k Tree.IA.zero).l.length c') (bs.getD k Tree.IA.zero).l.length (Inbox.ic (bs.getD k Tree.IA.zero).l), (Tree.It.fz (X ++ N))]) (.cons PP (.cons PP (.nil _))))
         simp only [List.cons_append, List.nil_append] at hfz0
         have hfz := Tree.St.freeze (x := (⟨(Tree.behind (Tree.bl Y) (bs.getD k Tree.IA.zero).l salt), A', c'⟩ : Inbox.BA)) hfz0
         exact ((hfz.only (is := [It.row 26 35 (.slice ArV (Y.length + 1) crV) (Y.length + 1) (Inbox.bc Y ++ Inbox.BA.cells (⟨(Tree.behind (Tree.bl Y) (bs.getD k Tree.IA.zero).l salt), A', c'⟩ : Inbox.BA)), It.row 23 32 (.slice ArU (Y.length + 1) crU) (Y.length + 1) (hc (Tree.hashes (Tree.bl Y)) ++ (Tree.hash (Tree.behind (Tree.bl Y) (bs.getD k Tree.IA.zero).l salt)).1.map u8), (Tree.It.fz (X ++ N ++ [(⟨(Tree.behind (Tree.bl Y) (bs.getD k Tree.IA.zero).l salt), A', c'⟩ : Inbox.BA)])), It.row 26 35 (.slice A1 X.length c1) X.length (Inbox.bc X), It.row 23 32 (.slice A2 X.length c2) X.length (hc (Tree.hashes (Tree.bl X))), It.blk c 77 [(.slice A1 X.length c1), (.slice A2 X.length c2), i64 dp, i64 de]]) (.cons PP (.cons PP (.cons PP (.cons PP (.cons PP (.cons PP (.nil _))))))))).weak ⟨rfl, rfl, rfl, rfl, rfl, rfl, rfl, rfl, rfl, fi rfl (by omega), trivial⟩ rfl
        ·skip
         refine st_buildSlice rfl Tryd.underlying75 z_size23 z_zero23 rfl rfl rfl (lay_agg (agg_cells _) (by rw [List.length_map]; exact Tree.hash_len _) rfl) rfl rfl rfl H104 ?_
         clear H104; intro b112 a112 wx112 H112
         refine hfinA H112.sep ?_
         refine hgo 3 rfl (by kernel_rfl) ?_
         refine st_append rfl z_slice36 z_notint36 rfl rfl (fun _ => UU) (fun w hs => Src.slice ((rd_blkA MM) w hs) (Inbox.BA.cells_len (x := (⟨(Tree.behind (Tree.bl Y) (bs.getD k Tree.IA.zero).l salt), A', c'⟩ : Inbox.BA)) (Tree.hash_len _)) (Tree.ba_cell (⟨(Tree.behind (Tree.bl Y) (bs.getD k Tree.IA.zero).l salt), A', c'⟩ : Inbox.BA))) (by unfold maxLen at *; omega) (by omega) rfl rfl rfl H112 ?_
         clear H112; intro v113 a113 wx113 hnil113 H113
         obtain ⟨ArV, crV, hvrV, hRrV, hmrV⟩ := row_shape (v := v113) H113.sep MM
         subst hvrV
         refine hfinA H113.sep ?_
         refine hgo 7 rfl (by kernel_rfl) ?_
         refine st_append rfl z_slice75 z_notint75 rfl rfl (fun _ => UU) (fun w hs => Src.slice ((rd_blkA MM) w hs) (by rw [List.length_map]; exact Tree.hash_len _) (by intro q hq; obtain ⟨y, _, rfl⟩ := List.mem_map.1 hq; rfl)) (by unfold maxLen at *; omega) (by omega) rfl rfl rfl H113 ?_
         clear H113; intro v114 a114 wx114 hnil114 H114
         obtain ⟨ArU, crU, hvrU, hRrU, hmrU⟩ := row_shape (v := v114) H114.sep MM
         subst hvrU
         refine hfinA H114.sep ?_
         refine htake 8 rfl (by kernel_rfl) (y_assign rfl rfl) rfl rfl rfl (fun _ h => h.subA) H114 ?_
         clear H114; intro a115 H115
         refine htake 9 rfl (by kernel_rfl) (y_assign rfl rfl) rfl rfl rfl (fun _ h => h.subA) H115 ?_
         clear H115; intro a116 H116
         refine hdone (by kernel_rfl) ?_
         refine inb_n ?_
         refine then_n ?_
         refine reg ?_
         refine plain (y_add rfl rfl rfl (by first | exact w64 (by omega) (by omega) | rfl)) rfl rfl rfl H116 ?_
         clear H116; intro a117 H117
         refine plain (y_move rfl rfl) rfl rfl rfl H117 ?_
         clear H117; intro a118 H118
         refine fin ?_
         refine then_n ?_
         have hF2 := Tree.far_next hF (x := (⟨(Tree.behind (Tree.bl Y) (bs.getD k Tree.IA.zero).l salt), A', c'⟩ : Inbox.BA)) (by rw [hil]; omega) (by rw [Tree.itl_at hkl]) hw2
         have hYa : (X.take (X.length - under.toNat)) ++ (N ++ [(⟨(Tree.behind (Tree.bl Y) (bs.getD k Tree.IA.zero).l salt), A', c'⟩ : Inbox.BA)]) = Y ++ [(⟨(Tree.behind (Tree.bl Y) (bs.getD k Tree.IA.zero).l salt), A', c'⟩ : Inbox.BA)] := by rw [← List.append_assoc, hYe]
         refine ⟨(k + 1, (N ++ [(⟨(Tree.behind (Tree.bl Y) (bs.getD k Tree.IA.zero).l salt), A', c'⟩ : Inbox.BA)], ((.slice ArV (Y.length + 1) crV : Value), (.slice ArU (Y.length + 1) crU : Value)))), by dsimp only; omega, ⟨by dsimp only; omega, by dsimp only; rw [hYa]; exact hF2, hN.app (Tree.Wfs.one hwB)⟩, ?_⟩
         dsimp only
         rw [← List.append_assoc, hYe, Tree.bc_append, Tree.bc_one, Tree.hs_one, hc_append, hc_one, List.length_append, ← List.append_assoc]
         have hfz0 := (H118.front (is := [It.row 69 4 (.slice A' (bs.getD k Tree.IA.zero).l.length c') (bs.getD k Tree.IA.zero).l.length (Inbox.ic (bs.getD k Tree.IA.zero).l), (Tree.It.fz (X ++ N))]) (.cons PP (.cons PP (.nil _))))
         simp only [List.cons_append, List.nil_append] at hfz0
         have hfz := Tree.St.freeze (x := (⟨(Tree.behind (Tree.bl Y) (bs.getD k Tree.IA.zero).l salt), A', c'⟩ : Inbox.BA)) hfz0
         exact ((hfz.only (is := [It.row 26 35 (.slice ArV (Y.length + 1) crV) (Y.length + 1) (Inbox.bc Y ++ Inbox.BA.cells (⟨(Tree.behind (Tree.bl Y) (bs.getD k Tree.IA.zero).l salt), A', c'⟩ : Inbox.BA)), It.row 23 32 (.slice ArU (Y.length + 1) crU) (Y.length + 1) (hc (Tree.hashes (Tree.bl Y)) ++ (Tree.hash (Tree.behind (Tree.bl Y) (bs.getD k Tree.IA.zero).l salt)).1.map u8), (Tree.It.fz (X ++ N ++ [(⟨(Tree.behind (Tree.bl Y) (bs.getD k Tree.IA.zero).l salt), A', c'⟩ : Inbox.BA)])), It.row 26 35 (.slice A1 X.length c1) X.length (Inbox.bc X), It.row 23 32 (.slice A2 X.length c2) X.length (hc (Tree.hashes (Tree.bl X))), It.blk c 77 [(.slice A1 X.length c1), (.slice A2 X.length c2), i64 dp, i64 de]]) (.cons PP (.cons PP (.cons PP (.cons PP (.cons PP (.cons PP (.nil _))))))))).weak ⟨rfl, rfl, rfl, rfl, rfl, rfl, rfl, rfl, rfl, fi rfl (by omega), trivial⟩ rfl
       ·skip
        refine st_buildSlice rfl Tryd.underlying75 z_size23 z_zero23 rfl rfl rfl (lay_agg (agg_cells _) (by rw [List.length_map]; exact Tree.hash_len _) rfl) rfl rfl rfl H103 ?_
        clear H103; intro b119 a119 wx119 H119
        refine hfinA H119.sep ?_
        refine hgo 2 rfl (by kernel_rfl) ?_
        refine st_buildSlice rfl Tryd.underlying36 z_size26 z_zero26 rfl rfl rfl (lay_agg (agg_cells _) (Inbox.BA.cells_len (x := (⟨(Tree.behind (Tree.bl Y) (bs.getD k Tree.IA.zero).l salt), A', c'⟩ : Inbox.BA)) (Tree.hash_len _)) rfl) rfl rfl rfl H119 ?_
        clear H119; intro b120 a120 wx120 H120
        refine hfinA H120.sep ?_
        refine hgo 3 rfl (by kernel_rfl) ?_
        refine st_append rfl z_slice36 z_notint36 rfl rfl (fun _ => UU) (fun w hs => Src.slice ((rd_blkA MM) w hs) (Inbox.BA.cells_len (x := (⟨(Tree.behind (Tree.bl Y) (bs.getD k Tree.IA.zero).l salt), A', c'⟩ : Inbox.BA)) (Tree.hash_len _)) (Tree.ba_cell (⟨(Tree.behind (Tree.bl Y) (bs.getD k Tree.IA.zero).l salt), A', c'⟩ : Inbox.BA))) (by unfold maxLen at *; omega) (by omega) rfl rfl rfl H120 ?_
        clear H120; intro v121 a121 wx121 hnil121 H121
        obtain ⟨ArV, crV, hvrV, hRrV, hmrV⟩ := row_shape (v := v121) H121.sep MM
        subst hvrV
        refine hfinA H121.sep ?_
        refine hgo 7 rfl (by kernel_rfl) ?_
        refine st_append rfl z_slice75 z_notint75 rfl rfl (fun _ => UU) (fun w hs => Src.slice ((rd_blkA MM) w hs) (by rw [List.length_map]; exact Tree.hash_len _) (by intro q hq; obtain ⟨y, _, rfl⟩ := List.mem_map.1 hq; rfl)) (by unfold maxLen at *; omega) (by omega) rfl rfl rfl H121 ?_
        clear H121; intro v122 a122 wx122 hnil122 H122
        obtain ⟨ArU, crU, hvrU, hRrU, hmrU⟩ := row_shape (v := v122) H122.sep MM
        subst hvrU
        refine hfinA H122.sep ?_
        refine htake 8 rfl (by kernel_rfl) (y_assign rfl rfl) rfl rfl rfl (fun _ h => h.subA) H122 ?_
        clear H122; intro a123 H123
        refine htake 9 rfl (by kernel_rfl) (y_assign rfl rfl) rfl rfl rfl (fun _ h => h.subA) H123 ?_
        clear H123; intro a124 H124
        refine hdone (by kernel_rfl) ?_
        refine inb_n ?_
        refine then_n ?_
        refine reg ?_
        refine plain (y_add rfl rfl rfl (by first | exact w64 (by omega) (by omega) | rfl)) rfl rfl rfl H124 ?_
        clear H124; intro a125 H125
        refine plain (y_move rfl rfl) rfl rfl rfl H125 ?_
        clear H125; intro a126 H126
        refine fin ?_
        refine then_n ?_
        have hF2 := Tree.far_next hF (x := (⟨(Tree.behind (Tree.bl Y) (bs.getD k Tree.IA.zero).l salt), A', c'⟩ : Inbox.BA)) (by rw [hil]; omega) (by rw [Tree.itl_at hkl]) hw2
        have hYa : (X.take (X.length - under.toNat)) ++ (N ++ [(⟨(Tree.behind (Tree.bl Y) (bs.getD k Tree.IA.zero).l salt), A', c'⟩ : Inbox.BA)]) = Y ++ [(⟨(Tree.behind (Tree.bl Y) (bs.getD k Tree.IA.zero).l salt), A', c'⟩ : Inbox.BA)] := by rw [← List.append_assoc, hYe]
        refine ⟨(k + 1, (N ++ [(⟨(Tree.behind (Tree.bl Y) (bs.getD k Tree.IA.zero).l salt), A', c'⟩ : Inbox.BA)], ((.slice ArV (Y.length + 1) crV : Value), (.slice ArU (Y.length + 1) crU : Value)))), by dsimp only; omega, ⟨by dsimp only; omega, by dsimp only; rw [hYa]; exact hF2, hN.app (Tree.Wfs.one hwB)⟩, ?_⟩
        dsimp only
        rw [← List.append_assoc, hYe, Tree.bc_append, Tree.bc_one, Tree.hs_one, hc_append, hc_one, List.length_append, ← List.append_assoc]
        have hfz0 := (H126.front (is := [It.row 69 4 (.slice A' (bs.getD k Tree.IA.zero).l.length c') (bs.getD k Tree.IA.zero).l.length (Inbox.ic (bs.getD k Tree.IA.zero).l), (Tree.It.fz (X ++ N))]) (.cons PP (.cons PP (.nil _))))
        simp only [List.cons_append, List.nil_append] at hfz0
        have hfz := Tree.St.freeze (x := (⟨(Tree.behind (Tree.bl Y) (bs.getD k Tree.IA.zero).l salt), A', c'⟩ : Inbox.BA)) hfz0
        exact ((hfz.only (is := [It.row 26 35 (.slice ArV (Y.length + 1) crV) (Y.length + 1) (Inbox.bc Y ++ Inbox.BA.cells (⟨(Tree.behind (Tree.bl Y) (bs.getD k Tree.IA.zero).l salt), A', c'⟩ : Inbox.BA)), It.row 23 32 (.slice ArU (Y.length + 1) crU) (Y.length + 1) (hc (Tree.hashes (Tree.bl Y)) ++ (Tree.hash (Tree.behind (Tree.bl Y) (bs.getD k Tree.IA.zero).l salt)).1.map u8), (Tree.It.fz (X ++ N ++ [(⟨(Tree.behind (Tree.bl Y) (bs.getD k Tree.IA.zero).l salt), A', c'⟩ : Inbox.BA)])), It.row 26 35 (.slice A1 X.length c1) X.length (Inbox.bc X), It.row 23 32 (.slice A2 X.length c2) X.length (hc (Tree.hashes (Tree.bl X))), It.blk c 77 [(.slice A1 X.length c1), (.slice A2 X.length c2), i64 dp, i64 de]]) (.cons PP (.cons PP (.cons PP (.cons PP (.cons PP (.cons PP (.nil _))))))))).weak ⟨rfl, rfl, rfl, rfl, rfl, rfl, rfl, rfl, rfl, fi rfl (by omega), trivial⟩ rfl
     ·skip
      try simp only [decide_eq_true_eq, decide_eq_false_iff_not, Bool.not_eq_true', Bool.not_eq_false', Bool.and_eq_true, Bool.not_eq_true, Bool.not_eq_false] at hc66
      refine wp_exit ?_
      refine then_x ?_
      refine then_x ?_
      refine inb_hit ?_
      refine then_n ?_
      refine wp_seq ?_
      have hFA := Tree.far_all hF (by rw [hil]; omega)
      have hFA2 := hFA.2
      refine reg ?_
      refine plain (y_move rfl rfl) rfl rfl rfl H65 ?_
      clear H65; intro a127 H127
      refine plain (y_move rfl rfl) rfl rfl rfl H127 ?_
      clear H127; intro a128 H128
      refine plain (y_move rfl rfl) rfl rfl rfl H128 ?_
      clear H128; intro a129 H129
      refine plain (y_move rfl rfl) rfl rfl rfl H129 ?_
      clear H129; intro a130 H130
      refine plain (y_move rfl rfl) rfl rfl rfl H130 ?_
      clear H130; intro a131 H131
      refine plain (y_move rfl rfl) rfl rfl rfl H131 ?_
      clear H131; intro a132 H132
      refine plain (y_nilCheck rfl rfl) rfl rfl rfl H132 ?_
      clear H132; intro a133 H133
      refine plain (y_fieldB rfl z_field77_3 rfl (by first | (simp only [Nat.zero_add, Nat.add_zero, Nat.reduceAdd]; rfl) | rfl)) rfl rfl rfl H133 ?_
      clear H133; intro a134 H134
      refine plain (y_loadB rfl z_agg3 rfl MM q_ix_c4_3) rfl rfl rfl H134 ?_
      clear H134; intro a135 H135
      refine plain (y_move rfl rfl) rfl rfl rfl H135 ?_
      clear H135; intro a136 H136
      refine plain (y_max2 rfl rfl rfl) rfl rfl rfl H136 ?_
      clear H136; intro a137 H137
      refine plain (y_nilCheck rfl rfl) rfl rfl rfl H137 ?_
      clear H137; intro a138 H138
      refine plain (y_fieldB rfl z_field77_0 rfl (by first | (simp only [Nat.zero_add, Nat.add_zero, Nat.reduceAdd]; rfl) | rfl)) rfl rfl rfl H138 ?_
      clear H138; intro a139 H139
      refine st_store1N rfl z_size36 rfl rfl rfl UU q_len_c4 q_set_c4_0 (by decide) rfl rfl H139 ?_
      clear H139; intro wx140 H140
      refine plain (y_nilCheck rfl rfl) rfl rfl rfl H140 ?_
      clear H140; intro a141 H141
      refine plain (y_fieldB rfl z_field77_1 rfl (by first | (simp only [Nat.zero_add, Nat.add_zero, Nat.reduceAdd]; rfl) | rfl)) rfl rfl rfl H141 ?_
      clear H141; intro a142 H142
      refine st_store1N rfl z_size75 rfl rfl rfl UU q_len_c4 q_set_c4_1 (by decide) rfl rfl H142 ?_
      clear H142; intro wx143 H143
      refine plain (y_nilCheck rfl rfl) rfl rfl rfl H143 ?_
      clear H143; intro a144 H144
      refine plain (y_fieldB rfl z_field77_3 rfl (by first | (simp only [Nat.zero_add, Nat.add_zero, Nat.reduceAdd]; rfl) | rfl)) rfl rfl rfl H144 ?_
      clear H144; intro a145 H145
      refine st_store1N rfl z_size3 rfl rfl rfl UU q_len_c4 q_set_c4_3 (by decide) rfl rfl H145 ?_
      clear H145; intro wx146 H146
      refine fin ?_
      refine then_n ?_
      refine wp_seq ?_
      refine reg ?_
      refine plain (y_assign rfl rfl) rfl rfl rfl H146 ?_
      clear H146; intro a147 H147
      refine fin ?_
      refine then_n ?_
      refine wp_ret ?_
      -- return 6
      refine ret1 rfl H147 rfl ?_
      first | (have hz9 := hFA2; have hz0 := Tree.turn_good (c := (⟨Tree.bl X, dp, de⟩ : Tree.Chain)) (u := under) (bs := Tree.itl bs) (salt := salt) (by omega) (by rw [hhe]; omega) (by rw [hil]; omega) (by rw [hhe, hil]; omega) hFA2; rw [hz0]; have hfz := Tree.St.thin (Y := Y) (by have hq := (H147.front (is := [(Tree.It.fz (X ++ N))]) (.cons PP (.nil _))); simp only [List.cons_append, List.nil_append] at hq; exact hq) (fun y hy => by rw [← hYe] at hy; rcases List.mem_append.1 hy with hy | hy; exact List.mem_append_left _ (List.mem_of_mem_take hy); exact List.mem_append_right _ hy); exact ⟨_, _, rfl, ⟨Y, (.slice A3 Y.length c3), (.slice A4 Y.length c4), ⟨hFA.1, hY⟩, rfl, rfl⟩, (hfz.only (is := [It.row 26 35 (.slice A3 Y.length c3) Y.length (Inbox.bc Y), It.row 23 32 (.slice A4 Y.length c4) Y.length (hc (Tree.hashes (Tree.bl Y))), It.blk c 77 [(.slice A3 Y.length c3), (.slice A4 Y.length c4), i64 dp, i64 (max de under)], (Tree.It.fz Y)]) (.cons PP (.cons PP (.cons PP (.cons PP (.nil _)))))).sep⟩) | (have hz9 := hw1; have hz1 := Tree.far_fall hF (by rw [hil]; omega) (by rw [Tree.itl_at hkl]; exact hw1); have hz0 := Tree.turn_bad (c := (⟨Tree.bl X, dp, de⟩ : Tree.Chain)) (u := under) (bs := Tree.itl bs) (salt := salt) (by omega) (by rw [hhe]; omega) (by rw [hil]; omega) (by rw [hhe, hil]; omega) (by rw [hz1, Tree.itl_at hkl]; exact hw1); rw [hz0, hz1, Tree.itl_at hkl]; have hfz := Tree.St.thin (Y := X) (by have hq := (H147.front (is := [(Tree.It.fz (X ++ N))]) (.cons PP (.nil _))); simp only [List.cons_append, List.nil_append] at hq; exact hq) (fun y hy => List.mem_append_left _ hy); exact ⟨_, _, rfl, ⟨X, (.slice A1 X.length c1), (.slice A2 X.length c2), ⟨rfl, hX⟩, rfl, rfl⟩, (hfz.only (is := [It.row 26 35 (.slice A1 X.length c1) X.length (Inbox.bc X), It.row 23 32 (.slice A2 X.length c2) X.length (hc (Tree.hashes (Tree.bl X))), It.blk c 77 [(.slice A1 X.length c1), (.slice A2 X.length c2), i64 dp, i64 de], (Tree.It.fz X)]) (.cons PP (.cons PP (.cons PP (.cons PP (.nil _)))))).sep⟩) | (have hz0 := Tree.turn_neg (c := (⟨Tree.bl X, dp, de⟩ : Tree.Chain)) (u := under) (bs := Tree.itl bs) (salt := salt) hn1; rw [hz0]; exact ⟨_, _, rfl, ⟨X, (.slice A1 X.length c1), (.slice A2 X.length c2), ⟨rfl, hX⟩, rfl, rfl⟩, (H147.only (is := [It.row 26 35 (.slice A1 X.length c1) X.length (Inbox.bc X), It.row 23 32 (.slice A2 X.length c2) X.length (hc (Tree.hashes (Tree.bl X))), It.blk c 77 [(.slice A1 X.length c1), (.slice A2 X.length c2), i64 dp, i64 de], (Tree.It.fz X)]) (.cons PP (.cons PP (.cons PP (.cons PP (.nil _)))))).sep⟩) | (have hz0 := Tree.turn_deepR (c := (⟨Tree.bl X, dp, de⟩ : Tree.Chain)) (u := under) (bs := Tree.itl bs) (salt := salt) hn2 (by rw [hhe]; omega); rw [hz0]; exact ⟨_, _, rfl, ⟨X, (.slice A1 X.length c1), (.slice A2 X.length c2), ⟨rfl, hX⟩, rfl, rfl⟩, (H147.only (is := [It.row 26 35 (.slice A1 X.length c1) X.length (Inbox.bc X), It.row 23 32 (.slice A2 X.length c2) X.length (hc (Tree.hashes (Tree.bl X))), It.blk c 77 [(.slice A1 X.length c1), (.slice A2 X.length c2), i64 dp, i64 de], (Tree.It.fz X)]) (.cons PP (.cons PP (.cons PP (.cons PP (.nil _)))))).sep⟩) | (have hz0 := Tree.turn_few (c := (⟨Tree.bl X, dp, de⟩ : Tree.Chain)) (u := under) (bs := Tree.itl bs) (salt := salt) hn2 (by rw [hhe]; omega) (by rw [hil]; omega); rw [hz0]; exact ⟨_, _, rfl, ⟨X, (.slice A1 X.length c1), (.slice A2 X.length c2), ⟨rfl, hX⟩, rfl, rfl⟩, (H147.only (is := [It.row 26 35 (.slice A1 X.length c1) X.length (Inbox.bc X), It.row 23 32 (.slice A2 X.length c2) X.length (hc (Tree.hashes (Tree.bl X))), It.blk c 77 [(.slice A1 X.length c1), (.slice A2 X.length c2), i64 dp, i64 de], (Tree.It.fz X)]) (.cons PP (.cons PP (.cons PP (.cons PP (.nil _)))))).sep⟩) | (have hz0 := Tree.turn_full (c := (⟨Tree.bl X, dp, de⟩ : Tree.Chain)) (u := under) (bs := Tree.itl bs) (salt := salt) hn2 (by rw [hhe]; omega) (by rw [hil]; omega) (by rw [hhe, hil]; omega); rw [hz0]; exact ⟨_, _, rfl, ⟨X, (.slice A1 X.length c1), (.slice A2 X.length c2), ⟨rfl, hX⟩, rfl, rfl⟩, (H147.only (is := [It.row 26 35 (.slice A1 X.length c1) X.length (Inbox.bc X), It.row 23 32 (.slice A2 X.length c2) X.length (hc (Tree.hashes (Tree.bl X))), It.blk c 77 [(.slice A1 X.length c1), (.slice A2 X.length c2), i64 dp, i64 de], (Tree.It.fz X)]) (.cons PP (.cons PP (.cons PP (.cons PP (.nil _)))))).sep⟩)

end Go.Proofs.YtlhddgkbbdfacaaDoor.C_Turn

set_option linter.unusedVariables false
set_option linter.unusedSimpArgs false
namespace Go.Proofs.YtlhddgkbbdfacaaDoor.C_Has
open Go.Sx Go.RowKit Go.Proofs.YtlhddgkbbdfacaaDoor.C_Block Go.Proofs.YtlhddgkbbdfacaaDoor.C_Sum Go.Proofs.YtlhddgkbbdfacaaDoor.C_Ref Go.Proofs.YtlhddgkbbdfacaaDoor.C_RSum Go.Proofs.YtlhddgkbbdfacaaDoor.C_Num Go.Proofs.YtlhddgkbbdfacaaDoor.C_Lay Go.Proofs.YtlhddgkbbdfacaaDoor.C_Leaf Go.Proofs.YtlhddgkbbdfacaaDoor.C_Item Go.Proofs.YtlhddgkbbdfacaaDoor.C_RefI Go.Proofs.YtlhddgkbbdfacaaDoor.C_Eq Go.Proofs.YtlhddgkbbdfacaaDoor.C_Hash Go.Proofs.YtlhddgkbbdfacaaDoor.C_Nx Go.Proofs.YtlhddgkbbdfacaaDoor.C_Sm

theorem z_field77_0 : fieldB Tryd.prog 77 0 = some 0 := by kernel_rfl
theorem z_agg36 : aggB Tryd.prog 36 = some false := by kernel_rfl
theorem z_zeroN23 : zeroL Tryd.prog 23 = some ((List.replicate 32 (0 : UInt8)).map u8) := by kernel_rfl
theorem z_call41 : callB Tryd.prog 41 = true := by kernel_rfl
theorem z_size5 : sizeB Tryd.prog 5 = some 1 := by kernel_rfl
theorem z_size23 : sizeB Tryd.prog 23 = some 32 := by kernel_rfl
theorem q_one_b32 {t0 : List UInt8} : (t0.map u8).all (·.oneCell') = true := (one_u8 _)
theorem q_len_b32 {t0 : List UInt8} (h0 : t0.length = 32) : (t0.map u8).length = 32 := (len_e (k := 32) h0)
theorem q_spl_b32_0_b32 {t0 : List UInt8} {s0 : List UInt8} (h0 : t0.length = 32) (g0 : s0.length = 32) : spl (t0.map u8) 0 (s0.map u8) = s0.map u8 := (spl_a (z := 32) (len_e (k := 32) h0) (len_e (k := 32) g0))
theorem z_agg23 : aggB Tryd.prog 23 = some true := by kernel_rfl
theorem z_field77_1 : fieldB Tryd.prog 77 1 = some 1 := by kernel_rfl
theorem z_agg75 : aggB Tryd.prog 75 = some false := by kernel_rfl

set_option maxRecDepth 100000 in
set_option maxHeartbeats 1000000 in
theorem thas (X : List Inbox.BA) (hX : Tree.Wfs X) (h0 : 0 < X.length) (hlen : X.length ≤ 4097) (dp de : Int) (c : Nat) (v u : Value) (n : Int) {w : World} (hc_ : (It.blk c 77 [v, u, i64 dp, i64 de]).P w) (hv_ : (It.row 26 35 v X.length (Inbox.bc X)).P w)  : Calls Tryd.prog 41 #[.pointer (some ⟨c, 0, none⟩), .int .i64 n] w (Gives (.int .i64 (if n < 0 ∨ (X.length : Int) ≤ n then 31 else 0)) [] w) := by
 obtain ⟨A1, c1, rfl, hRx, hmx⟩ := Row.rd hv_
 have lz32 : (List.replicate 32 (0 : UInt8)).length = 32 := List.length_replicate
 refine enterL (args := [.pointer (some ⟨c, 0, none⟩), .int .i64 n]) Tryd.func41 rfl rfl (l := []) (Sep.refl _) ?_
 intro a0 H0
 refine wp_seq ?_
 refine reg ?_
 refine plain (y_assign rfl rfl) rfl rfl rfl H0 ?_
 clear H0; intro a1 H1
 refine fin ?_
 refine then_n ?_
 refine wp_seq ?_
 refine wp_block ?_
 refine wp_seq ?_
 refine reg ?_
 refine plain (y_move rfl rfl) rfl rfl rfl H1 ?_
 clear H1; intro a2 H2
 refine plain (y_peql rfl Tryd.underlying33 rfl rfl) rfl rfl rfl H2 ?_
 clear H2; intro a3 H3
 refine plain (y_assign rfl rfl) rfl rfl rfl H3 ?_
 clear H3; intro a4 H4
 refine fin ?_
 refine then_n ?_
 refine cnd_f H4 rfl ?_
 refine wp_seq ?_
 refine reg ?_
 refine plain (y_move rfl rfl) rfl rfl rfl H4 ?_
 clear H4; intro a6 H6
 refine plain (y_lss rfl rfl rfl) rfl rfl rfl H6 ?_
 clear H6; intro a7 H7
 refine plain (y_move rfl rfl) rfl rfl rfl H7 ?_
 clear H7; intro a8 H8
 refine Sx.part (d := 11) H8 rfl (fun hg9 => ?_) (fun hg9 => ?_)
 ·first
  |fail
  |skip
   clear H8; intro H10
   try simp only [decide_eq_true_eq, decide_eq_false_iff_not, Bool.not_eq_true', Bool.not_eq_false', Bool.and_eq_true, Bool.not_eq_true, Bool.not_eq_false] at hg9
   refine skip rfl rfl rfl H10 ?_
   clear H10; intro a11 H11
   refine skip rfl rfl rfl H11 ?_
   clear H11; intro a12 H12
   refine skip rfl rfl rfl H12 ?_
   clear H12; intro a13 H13
   refine skip rfl rfl rfl H13 ?_
   clear H13; intro a14 H14
   refine skip rfl rfl rfl H14 ?_
   clear H14; intro a15 H15
   refine skip rfl rfl rfl H15 ?_
   clear H15; intro a16 H16
   refine skip rfl rfl rfl H16 ?_
   clear H16; intro a17 H17
   refine plain (y_pick_t rfl rfl rfl) rfl rfl rfl H17 ?_
   clear H17; intro a18 H18
   refine plain (y_assign rfl rfl) rfl rfl rfl H18 ?_
   clear H18; intro a19 H19
   refine fin ?_
   refine then_n ?_
   refine cnd_t H19 rfl ?_
   refine wp_seq ?_
   refine reg ?_
   refine plain (y_assign rfl rfl) rfl rfl rfl H19 ?_
   clear H19; intro a21 H21
   refine fin ?_
   refine then_n ?_
   refine wp_ret ?_
   refine inb_r ?_
   refine then_r ?_
   -- return 1
   refine ret1 rfl H21 rfl ?_
   exact ⟨_, [], rfl, ⟨by first | rw [if_pos (by omega)] | rw [if_neg (by omega)], rfl⟩, H21.sep.sub (List.nil_sublist _)⟩
 ·first
  |fail
  |skip
   clear H8; intro H22
   try simp only [decide_eq_true_eq, decide_eq_false_iff_not, Bool.not_eq_true', Bool.not_eq_false', Bool.and_eq_true, Bool.not_eq_true, Bool.not_eq_false] at hg9
   refine plain (y_move rfl rfl) rfl rfl rfl H22 ?_
   clear H22; intro a23 H23
   refine plain (y_move rfl rfl) rfl rfl rfl H23 ?_
   clear H23; intro a24 H24
   refine plain (y_nilCheck rfl rfl) rfl rfl rfl H24 ?_
   clear H24; intro a25 H25
   refine plain (y_fieldB rfl z_field77_0 rfl (by first | (simp only [Nat.zero_add, Nat.add_zero, Nat.reduceAdd]; rfl) | rfl)) rfl rfl rfl H25 ?_
   clear H25; intro a26 H26
   refine plain (y_loadO rfl z_agg36 rfl (blk_cell hc_ (by rfl)) (by simp)) rfl rfl rfl H26 ?_
   clear H26; intro a27 H27
   refine plain (y_len rfl Tryd.underlying36 rfl) rfl rfl rfl H27 ?_
   clear H27; intro a28 H28
   refine plain (y_geq rfl rfl rfl) rfl rfl rfl H28 ?_
   clear H28; intro a29 H29
   refine plain (y_pick_f rfl rfl rfl) rfl rfl rfl H29 ?_
   clear H29; intro a30 H30
   refine plain (y_assign rfl rfl) rfl rfl rfl H30 ?_
   clear H30; intro a31 H31
   refine fin ?_
   refine then_n ?_
   refine cnd H31 rfl (fun hc32 => ?_) (fun hc32 => ?_) -- cond 3
   ·skip
    try simp only [decide_eq_true_eq, decide_eq_false_iff_not, Bool.not_eq_true', Bool.not_eq_false', Bool.and_eq_true, Bool.not_eq_true, Bool.not_eq_false] at hc32
    refine wp_seq ?_
    refine reg ?_
    refine plain (y_assign rfl rfl) rfl rfl rfl H31 ?_
    clear H31; intro a33 H33
    refine fin ?_
    refine then_n ?_
    refine wp_ret ?_
    refine inb_r ?_
    refine then_r ?_
    -- return 2
    refine ret1 rfl H33 rfl ?_
    exact ⟨_, [], rfl, ⟨by first | rw [if_pos (by omega)] | rw [if_neg (by omega)], rfl⟩, H33.sep.sub (List.nil_sublist _)⟩
   ·skip
    try simp only [decide_eq_true_eq, decide_eq_false_iff_not, Bool.not_eq_true', Bool.not_eq_false', Bool.and_eq_true, Bool.not_eq_true, Bool.not_eq_false] at hc32
    refine wp_skip ?_
    refine inb_n ?_
    refine then_n ?_
    refine wp_seq ?_
    refine reg ?_
    refine plain (y_assign rfl rfl) rfl rfl rfl H31 ?_
    clear H31; intro a34 H34
    refine fin ?_
    refine then_n ?_
    refine wp_ret ?_
    -- return 3
    refine ret1 rfl H34 rfl ?_
    exact ⟨_, [], rfl, ⟨by first | rw [if_pos (by omega)] | rw [if_neg (by omega)], rfl⟩, H34.sep.sub (List.nil_sublist _)⟩
set_option maxRecDepth 100000 in
set_option maxHeartbeats 1000000 in
theorem thashn (X : List Inbox.BA) (hX : Tree.Wfs X) (h0 : 0 < X.length) (hlen : X.length ≤ 4097) (dp de : Int) (c : Nat) (v u : Value) (n : Int) {w : World} (hc_ : (It.blk c 77 [v, u, i64 dp, i64 de]).P w) (hv_ : (It.row 26 35 v X.length (Inbox.bc X)).P w) (hu_ : (It.row 23 32 u X.length (hc (Tree.hashes (Tree.bl X)))).P w)  : Calls Tryd.prog 22 #[.pointer (some ⟨c, 0, none⟩), .int .i64 n] w (Gives (.tuple #[.agg ((if n < 0 ∨ (X.length : Int) ≤ n then Note.Z else (Tree.hash (X.getD n.toNat Inbox.BA.zero).b).1).map u8).toArray, .int .i64 (if n < 0 ∨ (X.length : Int) ≤ n then 31 else 0)]) [] w) := by
 obtain ⟨A2, c2, rfl, hRu, hmu⟩ := Row.rd hu_
 have hZl : Note.Z.length = 32 := Note.Z_len
 have lz32 : (List.replicate 32 (0 : UInt8)).length = 32 := List.length_replicate
 refine enterL (args := [.pointer (some ⟨c, 0, none⟩), .int .i64 n]) Tryd.func22 rfl rfl (l := []) (Sep.refl _) ?_
 intro a0 H0
 refine wp_seq ?_
 refine reg ?_
 refine st_alloc rfl z_zeroN23 rfl rfl rfl H0 ?_
 clear H0; intro b1 a1 wx1 H1
 refine plain (y_assign rfl rfl) rfl rfl rfl H1 ?_
 clear H1; intro a2 H2
 refine fin ?_
 refine then_n ?_
 refine wp_seq ?_
 refine wp_seq ?_
 refine reg ?_
 refine plain (y_move rfl rfl) rfl rfl rfl H2 ?_
 clear H2; intro a3 H3
 refine plain (y_move rfl rfl) rfl rfl rfl H3 ?_
 clear H3; intro a4 H4
 refine st_callg rfl z_call41 rfl rfl rfl rfl H4 (thas X hX h0 hlen dp de c _ _ n (H4.sep.keep hc_) (H4.sep.keep hv_)) ?_
 clear H4; intro a5 wx5 H5
 refine plain (y_assign rfl rfl) rfl rfl rfl H5 ?_
 clear H5; intro a6 H6
 refine fin ?_
 refine then_n ?_
 refine wp_seq ?_
 refine reg ?_
 refine plain (y_move rfl rfl) rfl rfl rfl H6 ?_
 clear H6; intro a7 H7
 refine plain (y_neq rfl rfl rfl) rfl rfl rfl H7 ?_
 clear H7; intro a8 H8
 refine fin ?_
 refine then_n ?_
 refine cnd H8 rfl (fun hc9 => ?_) (fun hc9 => ?_) -- cond 1
 ·skip
  try simp only [decide_eq_true_eq, decide_eq_false_iff_not, Bool.not_eq_true', Bool.not_eq_false', Bool.and_eq_true, Bool.not_eq_true, Bool.not_eq_false] at hc9
  have hn : n < 0 ∨ (X.length : Int) ≤ n := Decidable.byContradiction fun z => hc9 (if_neg z)
  refine wp_seq ?_
  refine reg ?_
  refine plain (y_buildA rfl z_zeroN23 Tryd.underlying23 z_size5 rfl lay_n) rfl rfl rfl H8 ?_
  clear H8; intro a10 H10
  refine plain (y_move rfl rfl) rfl rfl rfl H10 ?_
  clear H10; intro a11 H11
  refine st_storeN rfl z_size23 rfl rfl (agg_cells _) UU q_one_b32 (q_len_b32 (by first | assumption | exact Tree.hash_len _)) (q_len_b32 (by first | assumption | exact Tree.hash_len _)) (q_spl_b32_0_b32 (by first | assumption | exact Tree.hash_len _) (by first | assumption | exact Tree.hash_len _)) (by decide) rfl rfl H11 ?_
  clear H11; intro wx12 H12
  refine plain (y_assign rfl rfl) rfl rfl rfl H12 ?_
  clear H12; intro a13 H13
  refine fin ?_
  refine then_n ?_
  refine wp_ret ?_
  refine then_r ?_
  -- return 1
  refine retct rfl H13 rfl z_agg23 z_size23 MM (q_len_b32 (by first | assumption | exact Tree.hash_len _)) rfl ?_
  refine ⟨_, [], rfl, ⟨?_, rfl⟩, H13.sep.sub (List.nil_sublist _)⟩
  first | (rw [if_pos hn, if_pos hn]; rfl) | (rw [if_neg hn, if_neg hn])
 ·skip
  try simp only [decide_eq_true_eq, decide_eq_false_iff_not, Bool.not_eq_true', Bool.not_eq_false', Bool.and_eq_true, Bool.not_eq_true, Bool.not_eq_false] at hc9
  have hn : ¬ (n < 0 ∨ (X.length : Int) ≤ n) := fun z => by rw [if_pos z] at hc9; simp at hc9
  refine wp_skip ?_
  refine then_n ?_
  refine wp_seq ?_
  refine reg ?_
  refine plain (y_move rfl rfl) rfl rfl rfl H8 ?_
  clear H8; intro a14 H14
  refine plain (y_nilCheck rfl rfl) rfl rfl rfl H14 ?_
  clear H14; intro a15 H15
  refine plain (y_fieldB rfl z_field77_1 rfl (by first | (simp only [Nat.zero_add, Nat.add_zero, Nat.reduceAdd]; rfl) | rfl)) rfl rfl rfl H15 ?_
  clear H15; intro a16 H16
  refine plain (y_loadO rfl z_agg75 rfl (blk_cell hc_ (by rfl)) (by simp)) rfl rfl rfl H16 ?_
  clear H16; intro a17 H17
  refine plain (y_move rfl rfl) rfl rfl rfl H17 ?_
  clear H17; intro a18 H18
  refine plain (y_ixR rfl Tryd.underlying75 z_size23 rfl rfl (by omega) (by omega) (rd_old hRu (by simp)) (by rw [Tree.hc_hs]; omega)) rfl rfl rfl H18 ?_
  clear H18; intro a19 H19
  refine plain (y_loadAS rfl z_agg23 z_size23 rfl (rd_old hRu (by simp)) (show _ = ((Tree.hashes (Tree.bl X)).getD n.toNat []).map u8 from hc_take _ (Tree.hashes_h _) (by rw [Tree.hashes_len, Tree.bl_len]; omega)) (by rw [List.length_map]; exact (Tree.hashes_h _).getD (by rw [Tree.hashes_len, Tree.bl_len]; omega)) (by decide)) rfl rfl rfl H19 ?_
  clear H19; intro a20 H20
  have hat : (Tree.hashes (Tree.bl X)).getD n.toNat [] = (Tree.hash (X.getD n.toNat Inbox.BA.zero).b).1 := by rw [Tree.hs_at (by rw [Tree.bl_len]; omega), Tree.bl_at (by omega)]
  rw [hat] at H20
  refine st_storeN rfl z_size23 rfl rfl (agg_cells _) UU q_one_b32 (q_len_b32 (by first | assumption | exact Tree.hash_len _)) (q_len_b32 (by first | assumption | exact Tree.hash_len _)) (q_spl_b32_0_b32 (by first | assumption | exact Tree.hash_len _) (by first | assumption | exact Tree.hash_len _)) (by decide) rfl rfl H20 ?_
  clear H20; intro wx21 H21
  refine plain (y_assign rfl rfl) rfl rfl rfl H21 ?_
  clear H21; intro a22 H22
  refine fin ?_
  refine then_n ?_
  refine wp_ret ?_
  -- return 2
  refine retct rfl H22 rfl z_agg23 z_size23 MM (q_len_b32 (by first | assumption | exact Tree.hash_len _)) rfl ?_
  refine ⟨_, [], rfl, ⟨?_, rfl⟩, H22.sep.sub (List.nil_sublist _)⟩
  first | (rw [if_pos hn, if_pos hn]; rfl) | (rw [if_neg hn, if_neg hn])
end Go.Proofs.YtlhddgkbbdfacaaDoor.C_Has

set_option linter.unusedVariables false
set_option linter.unusedSimpArgs false
namespace Go.Proofs.YtlhddgkbbdfacaaDoor.C_Blk
open Go.Sx Go.RowKit Go.Proofs.YtlhddgkbbdfacaaDoor.C_Block Go.Proofs.YtlhddgkbbdfacaaDoor.C_Sum Go.Proofs.YtlhddgkbbdfacaaDoor.C_Ref Go.Proofs.YtlhddgkbbdfacaaDoor.C_RSum Go.Proofs.YtlhddgkbbdfacaaDoor.C_Num Go.Proofs.YtlhddgkbbdfacaaDoor.C_Lay Go.Proofs.YtlhddgkbbdfacaaDoor.C_Leaf Go.Proofs.YtlhddgkbbdfacaaDoor.C_Item Go.Proofs.YtlhddgkbbdfacaaDoor.C_RefI Go.Proofs.YtlhddgkbbdfacaaDoor.C_Eq Go.Proofs.YtlhddgkbbdfacaaDoor.C_Hash Go.Proofs.YtlhddgkbbdfacaaDoor.C_Nx Go.Proofs.YtlhddgkbbdfacaaDoor.C_Sm Go.Proofs.YtlhddgkbbdfacaaDoor.C_Has

theorem z_zeroN26 : zeroL Tryd.prog 26 = some ((.int .i64 0 :: (.int .i64 0 :: ((List.replicate 32 (0 : UInt8)).map u8 ++ (.slice none 0 0 :: []))))) := by kernel_rfl
theorem z_call41 : callB Tryd.prog 41 = true := by kernel_rfl
theorem z_places26 : placesB Tryd.prog 26 = some [(0, 1), (1, 1), (2, 32), (34, 1)] := by kernel_rfl
theorem z_size26 : sizeB Tryd.prog 26 = some 35 := by kernel_rfl
theorem q_one_c2b32c1 {a0 a1 a3 : Value} {t2 : List UInt8} (o0 : a0.oneCell' = true) (o1 : a1.oneCell' = true) (o3 : a3.oneCell' = true) : (a0 :: a1 :: (t2.map u8 ++ (a3 :: []))).all (·.oneCell') = true := (one_c o0 (one_c o1 (one_b (one_c o3 one_n))))
theorem q_len_c2b32c1 {a0 a1 a3 : Value} {t2 : List UInt8} (h2 : t2.length = 32) : (a0 :: a1 :: (t2.map u8 ++ (a3 :: []))).length = 35 := (len_c (n := 34) (len_c (n := 33) (len_b (k := 32) (n := 1) h2 (len_c (n := 0) len_n))))
theorem q_spl_c2b32c1_0_c2b32c1 {a0 a1 a3 : Value} {t2 : List UInt8} {b0 b1 b3 : Value} {s2 : List UInt8} (h2 : t2.length = 32) (g2 : s2.length = 32) : spl (a0 :: a1 :: (t2.map u8 ++ (a3 :: []))) 0 (b0 :: b1 :: (s2.map u8 ++ (b3 :: []))) = b0 :: b1 :: (s2.map u8 ++ (b3 :: [])) := (spl_a (z := 35) (len_c (n := 34) (len_c (n := 33) (len_b (k := 32) (n := 1) h2 (len_c (n := 0) len_n)))) (len_c (n := 34) (len_c (n := 33) (len_b (k := 32) (n := 1) g2 (len_c (n := 0) len_n)))))
theorem z_agg26 : aggB Tryd.prog 26 = some true := by kernel_rfl
theorem z_field77_0 : fieldB Tryd.prog 77 0 = some 0 := by kernel_rfl
theorem z_agg36 : aggB Tryd.prog 36 = some false := by kernel_rfl
theorem z_call40 : callB Tryd.prog 40 = true := by kernel_rfl

set_option maxRecDepth 100000 in
set_option maxHeartbeats 1000000 in
theorem tblock (X : List Inbox.BA) (hX : Tree.Wfs X) (h0 : 0 < X.length) (hlen : X.length ≤ 4097) (dp de : Int) (c : Nat) (v u : Value) (hsm : ∀ y ∈ X, y.b.items.length ≤ 32) (n : Int) {w : World} (hc_ : (It.blk c 77 [v, u, i64 dp, i64 de]).P w) (hv_ : (It.row 26 35 v X.length (Inbox.bc X)).P w) (hf_ : (Tree.It.fz X).P w)  : Calls Tryd.prog 27 #[.pointer (some ⟨c, 0, none⟩), .int .i64 n] w (Post [] w fun r l' => (¬ (n < 0 ∨ (X.length : Int) ≤ n) ∧ ∃ A' c', r = .tuple #[.agg (Inbox.BA.cells (⟨(X.getD n.toNat Inbox.BA.zero).b, A', c'⟩ : Inbox.BA)).toArray, .int .i64 0] ∧ l' = [It.row 69 4 (.slice A' (X.getD n.toNat Inbox.BA.zero).b.items.length c') (X.getD n.toNat Inbox.BA.zero).b.items.length (Inbox.ic (X.getD n.toNat Inbox.BA.zero).b.items)]) ∨ ((n < 0 ∨ (X.length : Int) ≤ n) ∧ r = .tuple #[.agg (Inbox.BA.cells Inbox.BA.zero).toArray, .int .i64 31] ∧ l' = [])) := by
 obtain ⟨A2, c2, rfl, hRu, hmu⟩ := Row.rd hv_
 have hZl : Note.Z.length = 32 := Note.Z_len
 have lz32 : (List.replicate 32 (0 : UInt8)).length = 32 := List.length_replicate
 refine enterL (args := [.pointer (some ⟨c, 0, none⟩), .int .i64 n]) Tryd.func27 rfl rfl (l := []) (Sep.refl _) ?_
 intro a0 H0
 refine wp_seq ?_
 refine reg ?_
 refine st_alloc rfl z_zeroN26 rfl rfl rfl H0 ?_
 clear H0; intro b1 a1 wx1 H1
 refine plain (y_assign rfl rfl) rfl rfl rfl H1 ?_
 clear H1; intro a2 H2
 refine fin ?_
 refine then_n ?_
 refine wp_seq ?_
 refine wp_seq ?_
 refine reg ?_
 refine plain (y_move rfl rfl) rfl rfl rfl H2 ?_
 clear H2; intro a3 H3
 refine plain (y_move rfl rfl) rfl rfl rfl H3 ?_
 clear H3; intro a4 H4
 refine st_callg rfl z_call41 rfl rfl rfl rfl H4 (thas X hX h0 hlen dp de c _ _ n (H4.sep.keep hc_) (H4.sep.keep hv_)) ?_
 clear H4; intro a5 wx5 H5
 refine plain (y_assign rfl rfl) rfl rfl rfl H5 ?_
 clear H5; intro a6 H6
 refine fin ?_
 refine then_n ?_
 refine wp_seq ?_
 refine reg ?_
 refine plain (y_move rfl rfl) rfl rfl rfl H6 ?_
 clear H6; intro a7 H7
 refine plain (y_neq rfl rfl rfl) rfl rfl rfl H7 ?_
 clear H7; intro a8 H8
 refine fin ?_
 refine then_n ?_
 refine cnd H8 rfl (fun hc9 => ?_) (fun hc9 => ?_) -- cond 1
 ·skip
  try simp only [decide_eq_true_eq, decide_eq_false_iff_not, Bool.not_eq_true', Bool.not_eq_false', Bool.and_eq_true, Bool.not_eq_true, Bool.not_eq_false] at hc9
  have hn : n < 0 ∨ (X.length : Int) ≤ n := Decidable.byContradiction fun z => hc9 (if_neg z)
  rw [if_pos hn] at H8
  refine wp_seq ?_
  refine reg ?_
  refine plain (y_build rfl z_zeroN26 z_places26 rfl lay_n) rfl rfl rfl H8 ?_
  clear H8; intro a10 H10
  refine plain (y_move rfl rfl) rfl rfl rfl H10 ?_
  clear H10; intro a11 H11
  refine st_storeN rfl z_size26 rfl rfl (agg_cells _) UU (q_one_c2b32c1 rfl rfl rfl) (q_len_c2b32c1 (by assumption)) (q_len_c2b32c1 (by assumption)) (q_spl_c2b32c1_0_c2b32c1 (by assumption) (by assumption)) (by decide) rfl rfl H11 ?_
  clear H11; intro wx12 H12
  refine plain (y_assign rfl rfl) rfl rfl rfl H12 ?_
  clear H12; intro a13 H13
  refine fin ?_
  refine then_n ?_
  refine wp_ret ?_
  refine then_r ?_
  -- return 1
  refine retct rfl H13 rfl z_agg26 z_size26 MM (q_len_c2b32c1 (by assumption)) rfl ?_
  first | (refine ⟨_, _, rfl, .inl ⟨hn, A', c', rfl, rfl⟩, (H13.only (is := [It.row 69 4 (.slice A' (X.getD n.toNat Inbox.BA.zero).b.items.length c') (X.getD n.toNat Inbox.BA.zero).b.items.length (Inbox.ic (X.getD n.toNat Inbox.BA.zero).b.items)]) (.cons PP (.nil _))).sep⟩) | (exact ⟨_, [], rfl, .inr ⟨hn, rfl, rfl⟩, H13.sep.sub (List.nil_sublist _)⟩)
 ·skip
  try simp only [decide_eq_true_eq, decide_eq_false_iff_not, Bool.not_eq_true', Bool.not_eq_false', Bool.and_eq_true, Bool.not_eq_true, Bool.not_eq_false] at hc9
  have hn : ¬ (n < 0 ∨ (X.length : Int) ≤ n) := fun z => by rw [if_pos z] at hc9; simp at hc9
  refine wp_skip ?_
  refine then_n ?_
  refine wp_seq ?_
  have hnl : n.toNat < X.length := by omega
  have hwk := hX.at_ hnl
  have hpl := hwk.parent
  refine reg ?_
  refine plain (y_move rfl rfl) rfl rfl rfl H8 ?_
  clear H8; intro a14 H14
  refine plain (y_nilCheck rfl rfl) rfl rfl rfl H14 ?_
  clear H14; intro a15 H15
  refine plain (y_fieldB rfl z_field77_0 rfl (by first | (simp only [Nat.zero_add, Nat.add_zero, Nat.reduceAdd]; rfl) | rfl)) rfl rfl rfl H15 ?_
  clear H15; intro a16 H16
  refine plain (y_loadO rfl z_agg36 rfl (blk_cell hc_ (by rfl)) (by simp)) rfl rfl rfl H16 ?_
  clear H16; intro a17 H17
  refine plain (y_move rfl rfl) rfl rfl rfl H17 ?_
  clear H17; intro a18 H18
  refine plain (y_ixR rfl Tryd.underlying36 z_size26 rfl rfl (by omega) (by omega) (rd_old hRu (by simp)) (by rw [Tree.bc_len hX]; omega)) rfl rfl rfl H18 ?_
  clear H18; intro a19 H19
  refine plain (y_loadAS rfl z_agg26 z_size26 rfl (rd_old hRu (by simp)) (show _ = Inbox.BA.cells (X.getD n.toNat Inbox.BA.zero) from Tree.bc_take hX n.toNat hnl) hwk.len (by decide)) rfl rfl rfl H19 ?_
  clear H19; intro a20 H20
  refine st_call rfl z_call40 rfl rfl rfl rfl H20 (tcopied (X.getD n.toNat Inbox.BA.zero) hwk (by have := hsm _ (Inbox.memD Inbox.BA.zero hnl); omega) ((H20.sep.keep hf_) _ (Inbox.memD _ hnl))) ?_
  clear H20; intro v21 l21 a21 wx21 hf21 H21
  obtain ⟨A', c', rfl, rfl⟩ := hf21
  simp only [List.cons_append, List.nil_append] at H21
  refine st_storeN rfl z_size26 rfl rfl (agg_cells _) UU (q_one_c2b32c1 rfl rfl rfl) (q_len_c2b32c1 (by assumption)) (q_len_c2b32c1 (by assumption)) (q_spl_c2b32c1_0_c2b32c1 (by assumption) (by assumption)) (by decide) rfl rfl H21 ?_
  clear H21; intro wx22 H22
  refine plain (y_assign rfl rfl) rfl rfl rfl H22 ?_
  clear H22; intro a23 H23
  refine fin ?_
  refine then_n ?_
  refine wp_ret ?_
  -- return 2
  refine retct rfl H23 rfl z_agg26 z_size26 MM (q_len_c2b32c1 (by assumption)) rfl ?_
  first | (refine ⟨_, _, rfl, .inl ⟨hn, A', c', rfl, rfl⟩, (H23.only (is := [It.row 69 4 (.slice A' (X.getD n.toNat Inbox.BA.zero).b.items.length c') (X.getD n.toNat Inbox.BA.zero).b.items.length (Inbox.ic (X.getD n.toNat Inbox.BA.zero).b.items)]) (.cons PP (.nil _))).sep⟩) | (exact ⟨_, [], rfl, .inr ⟨hn, rfl, rfl⟩, H23.sep.sub (List.nil_sublist _)⟩)
end Go.Proofs.YtlhddgkbbdfacaaDoor.C_Blk

set_option linter.unusedVariables false
set_option linter.unusedSimpArgs false
namespace Go.Proofs.YtlhddgkbbdfacaaDoor.C_Up
open Go.Sx Go.RowKit Go.Proofs.YtlhddgkbbdfacaaDoor.C_Block Go.Proofs.YtlhddgkbbdfacaaDoor.C_Sum Go.Proofs.YtlhddgkbbdfacaaDoor.C_Ref Go.Proofs.YtlhddgkbbdfacaaDoor.C_RSum Go.Proofs.YtlhddgkbbdfacaaDoor.C_Num Go.Proofs.YtlhddgkbbdfacaaDoor.C_Lay Go.Proofs.YtlhddgkbbdfacaaDoor.C_Leaf Go.Proofs.YtlhddgkbbdfacaaDoor.C_Item Go.Proofs.YtlhddgkbbdfacaaDoor.C_RefI Go.Proofs.YtlhddgkbbdfacaaDoor.C_Eq Go.Proofs.YtlhddgkbbdfacaaDoor.C_Hash Go.Proofs.YtlhddgkbbdfacaaDoor.C_Nx Go.Proofs.YtlhddgkbbdfacaaDoor.C_Sm

theorem z_field77_0 : fieldB Tryd.prog 77 0 = some 0 := by kernel_rfl
theorem z_agg36 : aggB Tryd.prog 36 = some false := by kernel_rfl
theorem z_size26 : sizeB Tryd.prog 26 = some 35 := by kernel_rfl
theorem z_agg26 : aggB Tryd.prog 26 = some true := by kernel_rfl
theorem z_call40 : callB Tryd.prog 40 = true := by kernel_rfl
theorem z_zero26 : zeroL Tryd.prog 26 = some ([.int .i64 0, .int .i64 0, .int .u8 0, .int .u8 0, .int .u8 0, .int .u8 0, .int .u8 0, .int .u8 0, .int .u8 0, .int .u8 0, .int .u8 0, .int .u8 0, .int .u8 0, .int .u8 0, .int .u8 0, .int .u8 0, .int .u8 0, .int .u8 0, .int .u8 0, .int .u8 0, .int .u8 0, .int .u8 0, .int .u8 0, .int .u8 0, .int .u8 0, .int .u8 0, .int .u8 0, .int .u8 0, .int .u8 0, .int .u8 0, .int .u8 0, .int .u8 0, .int .u8 0, .int .u8 0, .slice none 0 0]) := by kernel_rfl
theorem z_slice36 : sliceB Tryd.prog 36 = some (26, 35, 72) := by kernel_rfl
theorem z_notint36 : notIntB Tryd.prog 36 = true := by kernel_rfl

set_option maxRecDepth 100000 in
set_option maxHeartbeats 4000000 in
theorem tupto (X : List Inbox.BA) (hX : Tree.Wfs X) (h0 : 0 < X.length) (hlen : X.length ≤ 4097) (dp de : Int) (c : Nat) (v u : Value) (hsm : ∀ y ∈ X, y.b.items.length ≤ 32) (n : Int) (hn : Note.I64 n) {w : World} (hc_ : (It.blk c 77 [v, u, i64 dp, i64 de]).P w) (hv_ : (It.row 26 35 v X.length (Inbox.bc X)).P w) (hf_ : (Tree.It.fz X).P w)  : Calls Tryd.prog 17 #[.pointer (some ⟨c, 0, none⟩), .int .i64 n] w (Post [] w fun r l' => ∃ N : List Inbox.BA, (Tree.bl N = ((Tree.bl X).take (n + 1).toNat) ∧ Tree.Wfs N) ∧ l' = [It.row 26 35 r N.length (Inbox.bc N), (Tree.It.fz N)]) := by
 obtain ⟨A2, c2, rfl, hRu, hmu⟩ := Row.rd hv_
 have hn2 := hn.2
 have lz32 : (List.replicate 32 (0 : UInt8)).length = 32 := List.length_replicate
 refine enterL (args := [.pointer (some ⟨c, 0, none⟩), .int .i64 n]) Tryd.func17 rfl rfl (l := []) (Sep.refl _) ?_
 intro a0 H0
 refine wp_seq ?_
 refine reg ?_
 refine plain (y_assign rfl rfl) rfl rfl rfl H0 ?_
 clear H0; intro a1 H1
 refine fin ?_
 refine then_n ?_
 refine wp_seq ?_
 refine reg ?_
 refine plain (y_assign rfl rfl) rfl rfl rfl H1 ?_
 clear H1; intro a2 H2
 refine fin ?_
 refine then_n ?_
 refine wp_seq ?_
 refine wp_seq ?_
 refine reg ?_
 refine plain (y_move rfl rfl) rfl rfl rfl H2 ?_
 clear H2; intro a3 H3
 refine plain (y_peql rfl Tryd.underlying33 rfl rfl) rfl rfl rfl H3 ?_
 clear H3; intro a4 H4
 refine fin ?_
 refine then_n ?_
 refine cnd_f H4 rfl ?_
 refine wp_skip ?_
 refine then_n ?_
 refine wp_seq ?_
 refine wp_seq ?_
 refine reg ?_
 refine plain (y_assign rfl rfl) rfl rfl rfl H4 ?_
 clear H4; intro a6 H6
 refine fin ?_
 refine then_n ?_
 refine wp_block ?_
 replace H6 := (Tree.St.addFz H6).nilRow 26 35
 refine loop (ι := Nat × (List Inbox.BA × Value)) (fun y => [(0, .pointer (some ⟨c, 0, none⟩)), (1, .int .i64 n), (5, y.2.2), (6, .int .i64 (y.1 : Int))]) (fun y => [It.row 26 35 y.2.2 y.2.1.length (Inbox.bc y.2.1), (Tree.It.fz y.2.1)]) (fun y => y.1 ≤ X.length ∧ (y.1 : Int) ≤ max 0 (n + 1) ∧ Tree.bl y.2.1 = (Tree.bl X).take y.1 ∧ Tree.Wfs y.2.1) (fun y => X.length - y.1) ((0, (([] : List Inbox.BA), (.slice none 0 0 : Value)))) ⟨Nat.zero_le _, by dsimp only; omega, rfl, fun _ hq => absurd hq (by simp)⟩ (H6.weak ⟨rfl, rfl, rfl, rfl, trivial⟩ rfl) ?_
 clear H6; intro y a7 wx7 hok7 H7
 obtain ⟨k, N, v2⟩ := y
 dsimp only at hok7 H7
 obtain ⟨hk, hkn, hbN, hN⟩ := hok7
 have hNl : N.length = k := by have := congrArg List.length hbN; rw [Tree.bl_len, List.length_take, Tree.bl_len] at this; omega
 obtain ⟨A1, c1, rfl, hR1, hm1⟩ := row_shape (v := v2) H7.sep MM
 refine wp_seq ?_
 refine wp_seq ?_
 refine reg ?_
 refine plain (y_move rfl rfl) rfl rfl rfl H7 ?_
 clear H7; intro a8 H8
 refine plain (y_move rfl rfl) rfl rfl rfl H8 ?_
 clear H8; intro a9 H9
 refine plain (y_nilCheck rfl rfl) rfl rfl rfl H9 ?_
 clear H9; intro a10 H10
 refine plain (y_fieldB rfl z_field77_0 rfl (by first | (simp only [Nat.zero_add, Nat.add_zero, Nat.reduceAdd]; rfl) | rfl)) rfl rfl rfl H10 ?_
 clear H10; intro a11 H11
 refine plain (y_loadO rfl z_agg36 rfl (blk_cell hc_ (by rfl)) (by simp)) rfl rfl rfl H11 ?_
 clear H11; intro a12 H12
 refine plain (y_len rfl Tryd.underlying36 rfl) rfl rfl rfl H12 ?_
 clear H12; intro a13 H13
 refine plain (y_lss rfl rfl rfl) rfl rfl rfl H13 ?_
 clear H13; intro a14 H14
 refine plain (y_move rfl rfl) rfl rfl rfl H14 ?_
 clear H14; intro a15 H15
 refine Sx.part (d := 17) H15 rfl (fun hg16 => ?_) (fun hg16 => ?_)
 ·first
  |fail
  |skip
   clear H15; intro H17
   try simp only [decide_eq_true_eq, decide_eq_false_iff_not, Bool.not_eq_true', Bool.not_eq_false', Bool.and_eq_true, Bool.not_eq_true, Bool.not_eq_false] at hg16
   refine plain (y_move rfl rfl) rfl rfl rfl H17 ?_
   clear H17; intro a18 H18
   refine plain (y_move rfl rfl) rfl rfl rfl H18 ?_
   clear H18; intro a19 H19
   refine plain (y_leq rfl rfl rfl) rfl rfl rfl H19 ?_
   clear H19; intro a20 H20
   refine plain (y_pick_t rfl rfl rfl) rfl rfl rfl H20 ?_
   clear H20; intro a21 H21
   refine fin ?_
   refine then_n ?_
   refine cnd H21 rfl (fun hc22 => ?_) (fun hc22 => ?_) -- cond 2
   ·skip
    try simp only [decide_eq_true_eq, decide_eq_false_iff_not, Bool.not_eq_true', Bool.not_eq_false', Bool.and_eq_true, Bool.not_eq_true, Bool.not_eq_false] at hc22
    refine wp_skip ?_
    refine then_n ?_
    refine wp_seq ?_
    refine wp_block ?_
    have hkl : k < X.length := by omega
    have hwk := hX.at_ hkl
    have hpl := hwk.parent
    refine reg ?_
    refine plain (y_move rfl rfl) rfl rfl rfl H21 ?_
    clear H21; intro a23 H23
    refine plain (y_move rfl rfl) rfl rfl rfl H23 ?_
    clear H23; intro a24 H24
    refine plain (y_nilCheck rfl rfl) rfl rfl rfl H24 ?_
    clear H24; intro a25 H25
    refine plain (y_fieldB rfl z_field77_0 rfl (by first | (simp only [Nat.zero_add, Nat.add_zero, Nat.reduceAdd]; rfl) | rfl)) rfl rfl rfl H25 ?_
    clear H25; intro a26 H26
    refine plain (y_loadO rfl z_agg36 rfl (blk_cell hc_ (by rfl)) (by simp)) rfl rfl rfl H26 ?_
    clear H26; intro a27 H27
    refine plain (y_move rfl rfl) rfl rfl rfl H27 ?_
    clear H27; intro a28 H28
    refine plain (y_ixR rfl Tryd.underlying36 z_size26 rfl rfl (by omega) (by omega) (rd_old hRu (by simp)) (by rw [Tree.bc_len hX]; omega)) rfl rfl rfl H28 ?_
    clear H28; intro a29 H29
    refine plain (y_loadAS rfl z_agg26 z_size26 rfl (rd_old hRu (by simp)) (show _ = Inbox.BA.cells (X.getD k Inbox.BA.zero) from Tree.bc_take hX k (by omega)) hwk.len (by decide)) rfl rfl rfl H29 ?_
    clear H29; intro a30 H30
    refine st_call rfl z_call40 rfl rfl rfl rfl H30 (tcopied (X.getD k Inbox.BA.zero) hwk (by have := hsm _ (Inbox.memD Inbox.BA.zero hkl); omega) ((H30.sep.keep hf_) _ (Inbox.memD _ hkl))) ?_
    clear H30; intro v31 l31 a31 wx31 hf31 H31
    obtain ⟨A', c', rfl, rfl⟩ := hf31
    simp only [List.cons_append, List.nil_append] at H31
    refine st_buildSlice rfl Tryd.underlying36 z_size26 z_zero26 rfl rfl rfl (lay_agg (agg_cells _) (Inbox.BA.cells_len (x := (⟨(X.getD k Inbox.BA.zero).b, A', c'⟩ : Inbox.BA)) hpl) rfl) rfl rfl rfl H31 ?_
    clear H31; intro b32 a32 wx32 H32
    refine st_append rfl z_slice36 z_notint36 rfl rfl (fun _ => UU) (fun w hs => Src.slice ((rd_blkA MM) w hs) (Inbox.BA.cells_len (x := (⟨(X.getD k Inbox.BA.zero).b, A', c'⟩ : Inbox.BA)) hpl) (Tree.ba_cell (⟨(X.getD k Inbox.BA.zero).b, A', c'⟩ : Inbox.BA))) (by unfold maxLen at *; first | omega | (simp only [List.length_cons, List.length_nil, List.length_append, List.length_map]; omega)) (by omega) rfl rfl rfl H32 ?_
    clear H32; intro v33 a33 wx33 hnil33 H33
    obtain ⟨ArY, crY, hvrY, hRrY, hmrY⟩ := row_shape (v := v33) H33.sep MM
    subst hvrY
    have hwB : Tree.W0 (⟨(X.getD k Inbox.BA.zero).b, A', c'⟩ : Inbox.BA) := ⟨hwk.number, hwk.salt, hwk.parent, hwk.items, hwk.bytes⟩
    refine plain (y_assign rfl rfl) rfl rfl rfl H33 ?_
    clear H33; intro a34 H34
    refine fin ?_
    refine inb_n ?_
    refine then_n ?_
    refine reg ?_
    refine plain (y_move rfl rfl) rfl rfl rfl H34 ?_
    clear H34; intro a35 H35
    refine plain (y_add rfl rfl rfl (by first | exact w64 (by omega) (by omega) | rfl)) rfl rfl rfl H35 ?_
    clear H35; intro a36 H36
    refine plain (y_assign rfl rfl) rfl rfl rfl H36 ?_
    clear H36; intro a37 H37
    refine fin ?_
    refine then_n ?_
    refine ⟨(k + 1, (N ++ [(⟨(X.getD k Inbox.BA.zero).b, A', c'⟩ : Inbox.BA)], (.slice ArY (N.length + 1) crY : Value))), by dsimp only; omega, ⟨by dsimp only; omega, by dsimp only; omega, ?_, hN.app (Tree.Wfs.one hwB)⟩, ?_⟩
    ·show Tree.bl (N ++ [(⟨(X.getD k Inbox.BA.zero).b, A', c'⟩ : Inbox.BA)]) = (Tree.bl X).take (k + 1)
     rw [Tree.bl_app, hbN, Oct.take_succ Tree.Block.zero (by rw [Tree.bl_len]; exact hkl), Tree.bl_at hkl]; rfl
    dsimp only
    rw [Tree.bc_append, Tree.bc_one, List.length_append]
    have hfz0 := (H37.front (is := [It.row 69 4 (.slice A' (X.getD k Inbox.BA.zero).b.items.length c') (X.getD k Inbox.BA.zero).b.items.length (Inbox.ic (X.getD k Inbox.BA.zero).b.items), (Tree.It.fz N)]) (.cons PP (.cons PP (.nil _))))
    simp only [List.cons_append, List.nil_append] at hfz0
    have hfz := Tree.St.freeze (x := (⟨(X.getD k Inbox.BA.zero).b, A', c'⟩ : Inbox.BA)) hfz0
    exact ((hfz.only (is := [It.row 26 35 (.slice ArY (N.length + 1) crY) (N.length + 1) (Inbox.bc N ++ Inbox.BA.cells (⟨(X.getD k Inbox.BA.zero).b, A', c'⟩ : Inbox.BA)), (Tree.It.fz (N ++ [(⟨(X.getD k Inbox.BA.zero).b, A', c'⟩ : Inbox.BA)]))]) (.cons PP (.cons PP (.nil _))))).weak ⟨rfl, rfl, rfl, fi rfl (by omega), trivial⟩ rfl
   ·skip
    try simp only [decide_eq_true_eq, decide_eq_false_iff_not, Bool.not_eq_true', Bool.not_eq_false', Bool.and_eq_true, Bool.not_eq_true, Bool.not_eq_false] at hc22
    refine wp_exit ?_
    refine then_x ?_
    refine then_x ?_
    refine inb_hit ?_
    refine then_n ?_
    refine wp_seq ?_
    have hkk : (Tree.bl X).take k = ((Tree.bl X).take (n + 1).toNat) := by first | (rw [show k = (n + 1).toNat by omega]) | (rw [List.take_of_length_le (by rw [Tree.bl_len]; omega), List.take_of_length_le (by rw [Tree.bl_len]; omega)])
    refine reg ?_
    refine plain (y_move rfl rfl) rfl rfl rfl H21 ?_
    clear H21; intro a38 H38
    refine plain (y_assign rfl rfl) rfl rfl rfl H38 ?_
    clear H38; intro a39 H39
    refine fin ?_
    refine then_n ?_
    refine wp_ret ?_
    -- return 1
    refine ret1 rfl H39 rfl ?_
    exact ⟨_, _, rfl, ⟨N, ⟨by rw [hbN]; exact hkk, hN⟩, rfl⟩, H39.sep⟩
 ·first
  |fail
  |skip
   clear H15; intro H40
   try simp only [decide_eq_true_eq, decide_eq_false_iff_not, Bool.not_eq_true', Bool.not_eq_false', Bool.and_eq_true, Bool.not_eq_true, Bool.not_eq_false] at hg16
   refine skip rfl rfl rfl H40 ?_
   clear H40; intro a41 H41
   refine skip rfl rfl rfl H41 ?_
   clear H41; intro a42 H42
   refine skip rfl rfl rfl H42 ?_
   clear H42; intro a43 H43
   refine plain (y_pick_f rfl rfl rfl) rfl rfl rfl H43 ?_
   clear H43; intro a44 H44
   refine fin ?_
   refine then_n ?_
   refine cnd_f H44 rfl ?_
   refine wp_exit ?_
   refine then_x ?_
   refine then_x ?_
   refine inb_hit ?_
   refine then_n ?_
   refine wp_seq ?_
   have hkk : (Tree.bl X).take k = ((Tree.bl X).take (n + 1).toNat) := by first | (rw [show k = (n + 1).toNat by omega]) | (rw [List.take_of_length_le (by rw [Tree.bl_len]; omega), List.take_of_length_le (by rw [Tree.bl_len]; omega)])
   refine reg ?_
   refine plain (y_move rfl rfl) rfl rfl rfl H44 ?_
   clear H44; intro a46 H46
   refine plain (y_assign rfl rfl) rfl rfl rfl H46 ?_
   clear H46; intro a47 H47
   refine fin ?_
   refine then_n ?_
   refine wp_ret ?_
   -- return 2
   refine ret1 rfl H47 rfl ?_
   exact ⟨_, _, rfl, ⟨N, ⟨by rw [hbN]; exact hkk, hN⟩, rfl⟩, H47.sep⟩
end Go.Proofs.YtlhddgkbbdfacaaDoor.C_Up

set_option linter.unusedVariables false
set_option linter.unusedSimpArgs false
namespace Go.Proofs.YtlhddgkbbdfacaaDoor.C_Same
open Go.Sx Go.RowKit Go.Proofs.YtlhddgkbbdfacaaDoor.C_Block Go.Proofs.YtlhddgkbbdfacaaDoor.C_Sum Go.Proofs.YtlhddgkbbdfacaaDoor.C_Ref Go.Proofs.YtlhddgkbbdfacaaDoor.C_RSum Go.Proofs.YtlhddgkbbdfacaaDoor.C_Num Go.Proofs.YtlhddgkbbdfacaaDoor.C_Lay Go.Proofs.YtlhddgkbbdfacaaDoor.C_Leaf Go.Proofs.YtlhddgkbbdfacaaDoor.C_Item Go.Proofs.YtlhddgkbbdfacaaDoor.C_RefI Go.Proofs.YtlhddgkbbdfacaaDoor.C_Eq Go.Proofs.YtlhddgkbbdfacaaDoor.C_Hash Go.Proofs.YtlhddgkbbdfacaaDoor.C_Nx Go.Proofs.YtlhddgkbbdfacaaDoor.C_Sm

theorem z_field26_0 : fieldB Tryd.prog 26 0 = some 0 := by kernel_rfl
theorem z_agg3 : aggB Tryd.prog 3 = some false := by kernel_rfl
theorem q_ix_c2b32c1_0 {a0 a1 a3 : Value} {t2 : List UInt8} : (a0 :: a1 :: (t2.map u8 ++ (a3 :: [])))[0]? = some a0 := ix_0
theorem z_field26_1 : fieldB Tryd.prog 26 1 = some 1 := by kernel_rfl
theorem q_ix_c2b32c1_1 {a0 a1 a3 : Value} {t2 : List UInt8} : (a0 :: a1 :: (t2.map u8 ++ (a3 :: [])))[1]? = some a1 := (ix_c (o := 0) ix_0)
theorem z_field26_2 : fieldB Tryd.prog 26 2 = some 2 := by kernel_rfl
theorem z_agg23 : aggB Tryd.prog 23 = some true := by kernel_rfl
theorem z_size23 : sizeB Tryd.prog 23 = some 32 := by kernel_rfl
theorem q_ld_c2b32c1_2_32 {a0 a1 a3 : Value} {t2 : List UInt8} (h2 : t2.length = 32) : ((a0 :: a1 :: (t2.map u8 ++ (a3 :: []))).drop 2).take 32 = t2.map u8 := (ld_c (o := 1) (ld_c (o := 0) (ld_h h2)))
theorem q_len_b32 {t0 : List UInt8} (h0 : t0.length = 32) : (t0.map u8).length = 32 := (len_e (k := 32) h0)
theorem z_size5 : sizeB Tryd.prog 5 = some 1 := by kernel_rfl
theorem z_field26_3 : fieldB Tryd.prog 26 3 = some 34 := by kernel_rfl
theorem z_agg24 : aggB Tryd.prog 24 = some false := by kernel_rfl
theorem q_ix_c2b32c1_34 {a0 a1 a3 : Value} {t2 : List UInt8} (h2 : t2.length = 32) : (a0 :: a1 :: (t2.map u8 ++ (a3 :: [])))[34]? = some a3 := (ix_c (o := 33) (ix_c (o := 32) (ix_b (k := 32) (o := 0) h2 rfl ix_0)))
theorem z_size69 : sizeB Tryd.prog 69 = some 4 := by kernel_rfl
theorem z_agg69 : aggB Tryd.prog 69 = some true := by kernel_rfl
theorem z_size26 : sizeB Tryd.prog 26 = some 35 := by kernel_rfl
theorem z_agg26 : aggB Tryd.prog 26 = some true := by kernel_rfl
theorem z_call28 : callB Tryd.prog 28 = true := by kernel_rfl

set_option maxRecDepth 100000 in
set_option maxHeartbeats 2000000 in
theorem rsame (x : Inbox.BA) (yA : Option Addr) (yc : Nat) (wx : Tree.W0 x) {w : World} (hR : Rd w x.A (Inbox.ic x.b.items)) (hR2 : Rd w yA (Inbox.ic x.b.items)) : Calls Tryd.prog 28 #[.agg (Inbox.BA.cells x).toArray, .agg (Inbox.BA.cells (⟨x.b, yA, yc⟩ : Inbox.BA)).toArray] w (Gives (.bool true) [] w) := by
 have hpl := wx.parent
 have hby := wx.bytes
 have lz32 : (List.replicate 32 (0 : UInt8)).length = 32 := List.length_replicate
 have lz0 := wx.parent
 refine enterL (args := [.agg (Inbox.BA.cells x).toArray, .agg (Inbox.BA.cells (⟨x.b, yA, yc⟩ : Inbox.BA)).toArray]) Tryd.func28 rfl rfl (l := []) (Sep.refl _) ?_
 intro a0 H0
 refine wp_seq ?_
 refine reg ?_
 refine st_box rfl rfl (agg_cells _) rfl rfl rfl H0 ?_
 clear H0; intro b1 a1 wx1 H1
 refine st_box rfl rfl (agg_cells _) rfl rfl rfl H1 ?_
 clear H1; intro b2 a2 wx2 H2
 refine plain (y_assign rfl rfl) rfl rfl rfl H2 ?_
 clear H2; intro a3 H3
 refine fin ?_
 refine then_n ?_
 refine wp_seq ?_
 refine wp_seq ?_
 refine reg ?_
 refine plain (y_fieldB rfl z_field26_0 rfl (by first | (simp only [Nat.zero_add, Nat.add_zero, Nat.reduceAdd]; rfl) | rfl)) rfl rfl rfl H3 ?_
 clear H3; intro a4 H4
 refine plain (y_loadB rfl z_agg3 rfl MM q_ix_c2b32c1_0) rfl rfl rfl H4 ?_
 clear H4; intro a5 H5
 refine plain (y_fieldB rfl z_field26_0 rfl (by first | (simp only [Nat.zero_add, Nat.add_zero, Nat.reduceAdd]; rfl) | rfl)) rfl rfl rfl H5 ?_
 clear H5; intro a6 H6
 refine plain (y_loadB rfl z_agg3 rfl MM q_ix_c2b32c1_0) rfl rfl rfl H6 ?_
 clear H6; intro a7 H7
 refine plain (y_neq rfl rfl rfl) rfl rfl rfl H7 ?_
 clear H7; intro a8 H8
 refine plain (y_move rfl rfl) rfl rfl rfl H8 ?_
 clear H8; intro a9 H9
 have H11 := H9.know (d := 11) (v := .bool false) rfl (congrArg Value.bool (decide_eq_false (fun z => z rfl)))
 clear H9
 refine plain (y_fieldB rfl z_field26_1 rfl (by first | (simp only [Nat.zero_add, Nat.add_zero, Nat.reduceAdd]; rfl) | rfl)) rfl rfl rfl H11 ?_
 clear H11; intro a12 H12
 refine plain (y_loadB rfl z_agg3 rfl MM q_ix_c2b32c1_1) rfl rfl rfl H12 ?_
 clear H12; intro a13 H13
 refine plain (y_fieldB rfl z_field26_1 rfl (by first | (simp only [Nat.zero_add, Nat.add_zero, Nat.reduceAdd]; rfl) | rfl)) rfl rfl rfl H13 ?_
 clear H13; intro a14 H14
 refine plain (y_loadB rfl z_agg3 rfl MM q_ix_c2b32c1_1) rfl rfl rfl H14 ?_
 clear H14; intro a15 H15
 refine plain (y_neq rfl rfl rfl) rfl rfl rfl H15 ?_
 clear H15; intro a16 H16
 refine plain (y_pick_f rfl rfl rfl) rfl rfl rfl H16 ?_
 clear H16; intro a17 H17
 refine plain (y_move rfl rfl) rfl rfl rfl H17 ?_
 clear H17; intro a18 H18
 have H20 := H18.know (d := 18) (v := .bool false) rfl (congrArg Value.bool (decide_eq_false (fun z => z rfl)))
 clear H18
 refine plain (y_fieldB rfl z_field26_2 rfl (by first | (simp only [Nat.zero_add, Nat.add_zero, Nat.reduceAdd]; rfl) | rfl)) rfl rfl rfl H20 ?_
 clear H20; intro a21 H21
 refine plain (y_loadAB rfl z_agg23 z_size23 rfl MM (q_ld_c2b32c1_2_32 (by assumption)) (q_len_b32 (by assumption))) rfl rfl rfl H21 ?_
 clear H21; intro a22 H22
 refine plain (y_fieldB rfl z_field26_2 rfl (by first | (simp only [Nat.zero_add, Nat.add_zero, Nat.reduceAdd]; rfl) | rfl)) rfl rfl rfl H22 ?_
 clear H22; intro a23 H23
 refine plain (y_loadAB rfl z_agg23 z_size23 rfl MM (q_ld_c2b32c1_2_32 (by assumption)) (q_len_b32 (by assumption))) rfl rfl rfl H23 ?_
 clear H23; intro a24 H24
 refine plain (y_hneq rfl Tryd.eqGuardType23 Tryd.underlying23 Tryd.underlying5 z_size5 rfl rfl (by assumption) (by assumption)) rfl rfl rfl H24 ?_
 clear H24; intro a25 H25
 refine plain (y_pick_f rfl rfl rfl) rfl rfl rfl H25 ?_
 clear H25; intro a26 H26
 refine plain (y_move rfl rfl) rfl rfl rfl H26 ?_
 clear H26; intro a27 H27
 have H29 := H27.know (d := 25) (v := .bool false) rfl (congrArg Value.bool (decide_eq_false (fun z => z rfl)))
 clear H27
 refine plain (y_fieldB rfl z_field26_3 rfl (by first | (simp only [Nat.zero_add, Nat.add_zero, Nat.reduceAdd]; rfl) | rfl)) rfl rfl rfl H29 ?_
 clear H29; intro a30 H30
 refine plain (y_loadB rfl z_agg24 rfl MM (q_ix_c2b32c1_34 (by assumption))) rfl rfl rfl H30 ?_
 clear H30; intro a31 H31
 refine plain (y_len rfl Tryd.underlying24 rfl) rfl rfl rfl H31 ?_
 clear H31; intro a32 H32
 refine plain (y_fieldB rfl z_field26_3 rfl (by first | (simp only [Nat.zero_add, Nat.add_zero, Nat.reduceAdd]; rfl) | rfl)) rfl rfl rfl H32 ?_
 clear H32; intro a33 H33
 refine plain (y_loadB rfl z_agg24 rfl MM (q_ix_c2b32c1_34 (by assumption))) rfl rfl rfl H33 ?_
 clear H33; intro a34 H34
 refine plain (y_len rfl Tryd.underlying24 rfl) rfl rfl rfl H34 ?_
 clear H34; intro a35 H35
 refine plain (y_neq rfl rfl rfl) rfl rfl rfl H35 ?_
 clear H35; intro a36 H36
 refine plain (y_pick_f rfl rfl rfl) rfl rfl rfl H36 ?_
 clear H36; intro a37 H37
 refine fin ?_
 refine then_n ?_
 refine cnd H37 rfl (fun hc38 => ?_) (fun hc38 => ?_) -- cond 1
 ·(try simp only [decide_eq_true_eq, decide_eq_false_iff_not, Bool.not_eq_true', Bool.not_eq_false', Bool.and_eq_true, Bool.not_eq_true, Bool.not_eq_false] at hc38); (exfalso; first | exact hc38 rfl | exact hc38 trivial | simp at hc38)
 ·skip
  try simp only [decide_eq_true_eq, decide_eq_false_iff_not, Bool.not_eq_true', Bool.not_eq_false', Bool.and_eq_true, Bool.not_eq_true, Bool.not_eq_false] at hc38
  refine wp_skip ?_
  refine then_n ?_
  refine wp_seq ?_
  refine wp_seq ?_
  refine reg ?_
  refine plain (y_assign rfl rfl) rfl rfl rfl H37 ?_
  clear H37; intro a39 H39
  refine fin ?_
  refine then_n ?_
  refine wp_block ?_
  refine loop (ι := Nat) (fun k => [(2, .pointer (some ⟨b1, 0, none⟩)), (3, .pointer (some ⟨b2, 0, none⟩)), (5, .int .i64 (k : Int))]) (fun k => [It.blk b2 26 (Inbox.BA.cells ⟨x.b, yA, yc⟩), It.blk b1 26 (Inbox.BA.cells x)]) (fun k => k ≤ x.b.items.length) (fun k => x.b.items.length - k) (0) (Nat.zero_le _) (H39.weak ⟨rfl, rfl, rfl, trivial⟩ rfl) ?_
  clear H39; intro k a40 wx40 hok40 H40
  have hok := hok40
  refine wp_seq ?_
  refine wp_seq ?_
  refine reg ?_
  refine plain (y_move rfl rfl) rfl rfl rfl H40 ?_
  clear H40; intro a41 H41
  refine plain (y_fieldB rfl z_field26_3 rfl (by first | (simp only [Nat.zero_add, Nat.add_zero, Nat.reduceAdd]; rfl) | rfl)) rfl rfl rfl H41 ?_
  clear H41; intro a42 H42
  refine plain (y_loadB rfl z_agg24 rfl MM (q_ix_c2b32c1_34 (by assumption))) rfl rfl rfl H42 ?_
  clear H42; intro a43 H43
  refine plain (y_len rfl Tryd.underlying24 rfl) rfl rfl rfl H43 ?_
  clear H43; intro a44 H44
  refine plain (y_lss rfl rfl rfl) rfl rfl rfl H44 ?_
  clear H44; intro a45 H45
  refine fin ?_
  refine then_n ?_
  refine cnd H45 rfl (fun hc46 => ?_) (fun hc46 => ?_) -- cond 2
  ·skip
   try simp only [decide_eq_true_eq, decide_eq_false_iff_not, Bool.not_eq_true', Bool.not_eq_false', Bool.and_eq_true, Bool.not_eq_true, Bool.not_eq_false] at hc46
   refine wp_skip ?_
   refine then_n ?_
   refine wp_seq ?_
   refine wp_block ?_
   refine wp_seq ?_
   have hkl : k < x.b.items.length := by omega
   refine qreg (by kernel_rfl) (by kernel_rfl) H45 ?_
   have F47 := H45.fr
   clear H45
   refine qplain (y_fieldB rfl z_field26_3 rfl (by first | (simp only [Nat.zero_add, Nat.add_zero, Nat.reduceAdd]; rfl) | rfl)) rfl rfl rfl F47 ?_
   clear F47; intro a48 H48
   refine qplain (y_loadB rfl z_agg24 rfl MM (q_ix_c2b32c1_34 (by assumption))) rfl rfl rfl H48 ?_
   clear H48; intro a49 H49
   refine qplain (y_move rfl rfl) rfl rfl rfl H49 ?_
   clear H49; intro a50 H50
   refine qplain (y_ixR rfl Tryd.underlying24 z_size69 rfl rfl (by omega) (by omega) (rd_old hR (by simp)) (by rw [Inbox.ic_len]; omega)) rfl rfl rfl H50 ?_
   clear H50; intro a51 H51
   refine qplain (y_loadAS rfl z_agg69 z_size69 rfl (rd_old hR (by simp)) (show _ = Note.Item.cells (x.b.items.getD k Note.Item.zero) from Inbox.ic_take k (by omega)) rfl (by decide)) rfl rfl rfl H51 ?_
   clear H51; intro a52 H52
   refine qplain (y_fieldB rfl z_field26_3 rfl (by first | (simp only [Nat.zero_add, Nat.add_zero, Nat.reduceAdd]; rfl) | rfl)) rfl rfl rfl H52 ?_
   clear H52; intro a53 H53
   refine qplain (y_loadB rfl z_agg24 rfl MM (q_ix_c2b32c1_34 (by assumption))) rfl rfl rfl H53 ?_
   clear H53; intro a54 H54
   refine qplain (y_move rfl rfl) rfl rfl rfl H54 ?_
   clear H54; intro a55 H55
   refine qplain (y_ixR rfl Tryd.underlying24 z_size69 rfl rfl (by omega) (by omega) (rd_old hR2 (by simp)) (by rw [Inbox.ic_len]; omega)) rfl rfl rfl H55 ?_
   clear H55; intro a56 H56
   refine qplain (y_loadAS rfl z_agg69 z_size69 rfl (rd_old hR2 (by simp)) (show _ = Note.Item.cells (x.b.items.getD k Note.Item.zero) from Inbox.ic_take k (by omega)) rfl (by decide)) rfl rfl rfl H56 ?_
   clear H56; intro a57 H57
   refine qplain (y_tneq rfl (by kernel_rfl) rfl rfl (eqr_Item (x.b.items.getD k Note.Item.zero) (x.b.items.getD k Note.Item.zero))) rfl rfl rfl H57 ?_
   clear H57; intro a58 H58
   refine qfin H58 ?_
   clear H58; intro wx59 H59
   refine then_n ?_
   refine cnd H59 rfl (fun hc60 => ?_) (fun hc60 => ?_) -- cond 3
   ·(try simp only [decide_eq_true_eq, decide_eq_false_iff_not, Bool.not_eq_true', Bool.not_eq_false', Bool.and_eq_true, Bool.not_eq_true, Bool.not_eq_false] at hc60); (exfalso; first | exact hc60 rfl | exact hc60 trivial | simp at hc60)
   ·skip
    try simp only [decide_eq_true_eq, decide_eq_false_iff_not, Bool.not_eq_true', Bool.not_eq_false', Bool.and_eq_true, Bool.not_eq_true, Bool.not_eq_false] at hc60
    refine wp_skip ?_
    refine inb_n ?_
    refine then_n ?_
    refine reg ?_
    refine plain (y_move rfl rfl) rfl rfl rfl H59 ?_
    clear H59; intro a61 H61
    refine plain (y_add rfl rfl rfl (by first | exact w64 (by omega) (by omega) | rfl)) rfl rfl rfl H61 ?_
    clear H61; intro a62 H62
    refine plain (y_assign rfl rfl) rfl rfl rfl H62 ?_
    clear H62; intro a63 H63
    refine fin ?_
    refine then_n ?_
    refine ⟨k + 1, by omega, by omega, H63.weak ⟨rfl, rfl, fi rfl (by omega), trivial⟩ rfl⟩
  ·skip
   try simp only [decide_eq_true_eq, decide_eq_false_iff_not, Bool.not_eq_true', Bool.not_eq_false', Bool.and_eq_true, Bool.not_eq_true, Bool.not_eq_false] at hc46
   refine wp_exit ?_
   refine then_x ?_
   refine then_x ?_
   refine inb_hit ?_
   refine then_n ?_
   refine wp_seq ?_
   refine reg ?_
   refine plain (y_assign rfl rfl) rfl rfl rfl H45 ?_
   clear H45; intro a64 H64
   refine fin ?_
   refine then_n ?_
   refine wp_ret ?_
   -- return 1
   refine ret1 rfl H64 rfl ?_
   exact ⟨_, [], rfl, ⟨rfl, rfl⟩, H64.sep.sub (List.nil_sublist _)⟩
set_option maxRecDepth 100000 in
set_option maxHeartbeats 1000000 in
theorem rall (X Y : List Inbox.BA) (hX : Tree.Wfs X) (hY : Tree.Wfs Y) (hxy : Tree.bl Y = Tree.bl X) (A B : Option Addr) (c e : Nat) (hlen : X.length ≤ 1000000) {w : World} (hR : Rd w A (Inbox.bc X)) (hR2 : Rd w B (Inbox.bc Y)) (hI : ∀ x ∈ X, Rd w x.A (Inbox.ic x.b.items)) (hI2 : ∀ x ∈ Y, Rd w x.A (Inbox.ic x.b.items)) : Calls Tryd.prog 19 #[.slice A X.length c, .slice B Y.length e] w (Gives (.bool true) [] w) := by
 have hll : Y.length = X.length := by have := congrArg List.length hxy; rw [Tree.bl_len, Tree.bl_len] at this; exact this
 have lz32 : (List.replicate 32 (0 : UInt8)).length = 32 := List.length_replicate
 refine enterL (args := [.slice A X.length c, .slice B Y.length e]) Tryd.func19 rfl rfl (l := []) (Sep.refl _) ?_
 intro a0 H0
 refine wp_seq ?_
 refine reg ?_
 refine plain (y_assign rfl rfl) rfl rfl rfl H0 ?_
 clear H0; intro a1 H1
 refine fin ?_
 refine then_n ?_
 refine wp_seq ?_
 refine wp_seq ?_
 refine reg ?_
 refine plain (y_move rfl rfl) rfl rfl rfl H1 ?_
 clear H1; intro a2 H2
 refine plain (y_len rfl Tryd.underlying36 rfl) rfl rfl rfl H2 ?_
 clear H2; intro a3 H3
 refine plain (y_move rfl rfl) rfl rfl rfl H3 ?_
 clear H3; intro a4 H4
 refine plain (y_len rfl Tryd.underlying36 rfl) rfl rfl rfl H4 ?_
 clear H4; intro a5 H5
 refine plain (y_neq rfl rfl rfl) rfl rfl rfl H5 ?_
 clear H5; intro a6 H6
 refine fin ?_
 refine then_n ?_
 refine cnd H6 rfl (fun hc7 => ?_) (fun hc7 => ?_) -- cond 1
 ·(try simp only [decide_eq_true_eq, decide_eq_false_iff_not, Bool.not_eq_true', Bool.not_eq_false', Bool.and_eq_true, Bool.not_eq_true, Bool.not_eq_false] at hc7); (exfalso; omega)
 ·skip
  try simp only [decide_eq_true_eq, decide_eq_false_iff_not, Bool.not_eq_true', Bool.not_eq_false', Bool.and_eq_true, Bool.not_eq_true, Bool.not_eq_false] at hc7
  refine wp_skip ?_
  refine then_n ?_
  refine wp_seq ?_
  refine wp_seq ?_
  refine reg ?_
  refine plain (y_assign rfl rfl) rfl rfl rfl H6 ?_
  clear H6; intro a8 H8
  refine fin ?_
  refine then_n ?_
  refine wp_block ?_
  refine loop (ι := Nat) (fun k => [(0, .slice A X.length c), (1, .slice B Y.length e), (5, .int .i64 (k : Int))]) (fun k => []) (fun k => k ≤ X.length) (fun k => X.length - k) (0) (Nat.zero_le _) (H8.weak ⟨rfl, rfl, rfl, trivial⟩ rfl) ?_
  clear H8; intro k a9 wx9 hok9 H9
  have hok := hok9
  refine wp_seq ?_
  refine wp_seq ?_
  refine reg ?_
  refine plain (y_move rfl rfl) rfl rfl rfl H9 ?_
  clear H9; intro a10 H10
  refine plain (y_move rfl rfl) rfl rfl rfl H10 ?_
  clear H10; intro a11 H11
  refine plain (y_len rfl Tryd.underlying36 rfl) rfl rfl rfl H11 ?_
  clear H11; intro a12 H12
  refine plain (y_lss rfl rfl rfl) rfl rfl rfl H12 ?_
  clear H12; intro a13 H13
  refine fin ?_
  refine then_n ?_
  refine cnd H13 rfl (fun hc14 => ?_) (fun hc14 => ?_) -- cond 2
  ·skip
   try simp only [decide_eq_true_eq, decide_eq_false_iff_not, Bool.not_eq_true', Bool.not_eq_false', Bool.and_eq_true, Bool.not_eq_true, Bool.not_eq_false] at hc14
   refine wp_skip ?_
   refine then_n ?_
   refine wp_seq ?_
   refine wp_block ?_
   refine wp_seq ?_
   have hkl : k < X.length := by omega
   have hkl2 : k < Y.length := by omega
   have hwk := hX.at_ hkl
   have hwk2 := hY.at_ hkl2
   have hbe : (Y.getD k Inbox.BA.zero).b = (X.getD k Inbox.BA.zero).b := by rw [← Tree.bl_at hkl, ← Tree.bl_at hkl2, hxy]
   have hce : Inbox.BA.cells (Y.getD k Inbox.BA.zero) = Inbox.BA.cells ⟨(X.getD k Inbox.BA.zero).b, (Y.getD k Inbox.BA.zero).A, (Y.getD k Inbox.BA.zero).c⟩ := by rw [← hbe]
   refine qreg (by kernel_rfl) (by kernel_rfl) H13 ?_
   have F15 := H13.fr
   clear H13
   refine qplain (y_move rfl rfl) rfl rfl rfl F15 ?_
   clear F15; intro a16 H16
   refine qplain (y_move rfl rfl) rfl rfl rfl H16 ?_
   clear H16; intro a17 H17
   refine qplain (y_ixR rfl Tryd.underlying36 z_size26 rfl rfl (by omega) (by omega) (rd_old hR (by simp)) (by first | (rw [Tree.bc_len hX]; omega) | (rw [Tree.bc_len hY]; omega))) rfl rfl rfl H17 ?_
   clear H17; intro a18 H18
   refine qplain (y_loadAS rfl z_agg26 z_size26 rfl (rd_old hR (by simp)) (show _ = Inbox.BA.cells (X.getD k Inbox.BA.zero) from Tree.bc_take hX k (by omega)) hwk.len (by decide)) rfl rfl rfl H18 ?_
   clear H18; intro a19 H19
   refine qplain (y_move rfl rfl) rfl rfl rfl H19 ?_
   clear H19; intro a20 H20
   refine qplain (y_move rfl rfl) rfl rfl rfl H20 ?_
   clear H20; intro a21 H21
   refine qplain (y_ixR rfl Tryd.underlying36 z_size26 rfl rfl (by omega) (by omega) (rd_old hR2 (by simp)) (by first | (rw [Tree.bc_len hX]; omega) | (rw [Tree.bc_len hY]; omega))) rfl rfl rfl H21 ?_
   clear H21; intro a22 H22
   refine qplain (y_loadAS rfl z_agg26 z_size26 rfl (rd_old hR2 (by simp)) ((Tree.bc_take hY k (by omega)).trans hce) (by rw [← hce]; exact hwk2.len) (by decide)) rfl rfl rfl H22 ?_
   clear H22; intro a23 H23
   refine qcallg rfl z_call28 rfl rfl rfl rfl H23 (fun w hs => (rsame (X.getD k Inbox.BA.zero) (Y.getD k Inbox.BA.zero).A (Y.getD k Inbox.BA.zero).c hwk (Rd.frm (hI _ (Inbox.memD _ hkl)) hs.frm (by simp)) (by rw [← hbe]; exact Rd.frm (hI2 _ (Inbox.memD _ hkl2)) hs.frm (by simp)))) ?_
   clear H23; intro a24 H24
   refine qplain (y_not rfl rfl) rfl rfl rfl H24 ?_
   clear H24; intro a25 H25
   refine qfin H25 ?_
   clear H25; intro wx26 H26
   refine then_n ?_
   refine cnd_f H26 rfl ?_
   refine wp_skip ?_
   refine inb_n ?_
   refine then_n ?_
   refine reg ?_
   refine plain (y_move rfl rfl) rfl rfl rfl H26 ?_
   clear H26; intro a28 H28
   refine plain (y_add rfl rfl rfl (by first | exact w64 (by omega) (by omega) | rfl)) rfl rfl rfl H28 ?_
   clear H28; intro a29 H29
   refine plain (y_assign rfl rfl) rfl rfl rfl H29 ?_
   clear H29; intro a30 H30
   refine fin ?_
   refine then_n ?_
   refine ⟨k + 1, by omega, by omega, H30.weak ⟨rfl, rfl, fi rfl (by omega), trivial⟩ rfl⟩
  ·skip
   try simp only [decide_eq_true_eq, decide_eq_false_iff_not, Bool.not_eq_true', Bool.not_eq_false', Bool.and_eq_true, Bool.not_eq_true, Bool.not_eq_false] at hc14
   refine wp_exit ?_
   refine then_x ?_
   refine then_x ?_
   refine inb_hit ?_
   refine then_n ?_
   refine wp_seq ?_
   refine reg ?_
   refine plain (y_assign rfl rfl) rfl rfl rfl H13 ?_
   clear H13; intro a31 H31
   refine fin ?_
   refine then_n ?_
   refine wp_ret ?_
   -- return 1
   refine ret1 rfl H31 rfl ?_
   exact ⟨_, [], rfl, ⟨rfl, rfl⟩, H31.sep.sub (List.nil_sublist _)⟩

end Go.Proofs.YtlhddgkbbdfacaaDoor.C_Same

set_option linter.unusedVariables false
set_option linter.unusedSimpArgs false
namespace Go.Proofs.YtlhddgkbbdfacaaDoor.C_Ea
open Go.Sx Go.RowKit Go.Proofs.YtlhddgkbbdfacaaDoor.C_Hash Go.Proofs.YtlhddgkbbdfacaaDoor.C_Nx Go.Proofs.YtlhddgkbbdfacaaDoor.C_Sm

theorem z_field77_1 : fieldB Tryd.prog 77 1 = some 1 := by kernel_rfl
theorem z_agg75 : aggB Tryd.prog 75 = some false := by kernel_rfl
theorem z_size23 : sizeB Tryd.prog 23 = some 32 := by kernel_rfl
theorem z_agg23 : aggB Tryd.prog 23 = some true := by kernel_rfl
theorem z_zeroN23 : zeroL Tryd.prog 23 = some ((List.replicate 32 (0 : UInt8)).map u8) := by kernel_rfl
theorem q_one_b32 {t0 : List UInt8} : (t0.map u8).all (·.oneCell') = true := (one_u8 _)
theorem q_len_b32 {t0 : List UInt8} (h0 : t0.length = 32) : (t0.map u8).length = 32 := (len_e (k := 32) h0)
theorem q_spl_b32_0_b32 {t0 : List UInt8} {s0 : List UInt8} (h0 : t0.length = 32) (g0 : s0.length = 32) : spl (t0.map u8) 0 (s0.map u8) = s0.map u8 := (spl_a (z := 32) (len_e (k := 32) h0) (len_e (k := 32) g0))
theorem q_ld_b32_0_32 {t0 : List UInt8} (h0 : t0.length = 32) : ((t0.map u8).drop 0).take 32 = t0.map u8 := (ld_a (len_e (k := 32) h0))

set_option maxRecDepth 100000 in
set_option maxHeartbeats 1000000 in
theorem enterB {P : Program} {S : List Nat} {w0 : World} {f : FuncId} {fn : Func} {c : Code} {args : List Value} {w : World} {R : Ending → World → Prop} (hf : P.funcs[f]? = some fn) (hb : fn.body = some c) (hn : Nat.ble args.length fn.ntmps = true) {l : List It} (hS : Sep S w0 w l)
    (h : ∀ a, St fn.ntmps S w0 (slots 0 args) l a w → c.wp P (bodyPost P fn R) a w) : Calls P f args.toArray w R := by
  refine calls_of_wp hf hb (h _ ⟨⟨?_, rfl, fun t v ht => ?_⟩, hS⟩)
  · have := Nat.le_of_ble_eq_true hn
    simp
    omega
  · have h1 := (find_slots args 0 t v ht).2
    have h2 : t < args.length := (List.getElem?_eq_some_iff.1 (by simpa using h1)).1
    show (args.toArray ++ _)[t]? = some v
    rw [Array.getElem?_append_left (by simpa using h2)]
    simpa using h1

set_option maxRecDepth 100000 in
set_option maxHeartbeats 1000000 in
theorem teach (X : List Inbox.BA) (hX : Tree.Wfs X) (h0 : 0 < X.length) (hlen : X.length ≤ 4097) (dp de : Int) (c : Nat) (v u : Value) {w0 : World} (hc_ : (It.blk c 77 [v, u, i64 dp, i64 de]).P w0) (hu_ : (It.row 23 32 u X.length (hc (Tree.hashes (Tree.bl X)))).P w0) (r : Nat) (I : List It) (N M : Nat → Prop) (Ix : Nat → List It) (hN0 : N 0) {w : World} (hs : Sep [] w0 w I)
    (hY : ∀ k w', k < X.length → N k → Sep [] w0 w' I → YieldAt Fence.wide 0 Tryd.prog r [Value.int .i64 (k : Int), .agg (((Tree.hashes (Tree.bl X)).getD k []).map u8).toArray].toArray w' fun e W' => (e = .returned (.bool true) ∧ (N (k + 1) ∧ Sep [] w0 W' I)) ∨ (e = .returned (.bool false) ∧ (M k ∧ Sep [] w0 W' (Ix k)))) :
    Calls Tryd.prog 44 #[.pointer (some ⟨c, 0, none⟩), .func (.yield r) #[] #[]] w fun e w' => ∃ v, e = .returned v ∧ ((N X.length ∧ Sep [] w0 w' I) ∨ ∃ k, k < X.length ∧ M k ∧ Sep [] w0 w' (Ix k)) := by
  obtain ⟨A2, c2, rfl, hRu, hmu⟩ := Row.rd hu_
  have lz32 : (List.replicate 32 (0 : UInt8)).length = 32 := List.length_replicate
  refine enterB (args := [.pointer (some ⟨c, 0, none⟩), .func (.yield r) #[] #[]]) Tryd.func44 rfl rfl (l := I) hs ?_
  intro a0 H0
  refine wp_seq ?_
  refine wp_seq ?_
  refine reg ?_
  refine plain (y_move rfl rfl) rfl rfl rfl H0 ?_
  clear H0; intro a1 H1
  refine plain (y_peql rfl Tryd.underlying33 rfl rfl) rfl rfl rfl H1 ?_
  clear H1; intro a2 H2
  refine fin ?_
  refine then_n ?_
  refine cnd H2 rfl (fun hc3 => ?_) (fun hc3 => ?_) -- cond 1
  · exact absurd hc3 (by simp)
  · skip
    try simp only [decide_eq_true_eq, decide_eq_false_iff_not, Bool.not_eq_true', Bool.not_eq_false', Bool.and_eq_true, Bool.not_eq_true, Bool.not_eq_false] at hc3
    refine wp_skip ?_
    refine then_n ?_
    refine wp_seq ?_
    refine reg ?_
    refine plain (y_move rfl rfl) rfl rfl rfl H2 ?_
    clear H2; intro a4 H4
    refine plain (y_nilCheck rfl rfl) rfl rfl rfl H4 ?_
    clear H4; intro a5 H5
    refine plain (y_fieldB rfl z_field77_1 rfl (by first | (simp only [Nat.zero_add, Nat.add_zero, Nat.reduceAdd]; rfl) | rfl)) rfl rfl rfl H5 ?_
    clear H5; intro a6 H6
    refine plain (y_loadO rfl z_agg75 rfl (blk_cell hc_ (by rfl)) (by simp)) rfl rfl rfl H6 ?_
    clear H6; intro a7 H7
    refine plain (y_len rfl Tryd.underlying75 rfl) rfl rfl rfl H7 ?_
    clear H7; intro a8 H8
    refine plain (y_move rfl rfl) rfl rfl rfl H8 ?_
    clear H8; intro a9 H9
    refine fin ?_
    refine then_n ?_
    refine wp_block ?_
    refine loop (ι := Nat) (fun k => [(0, .pointer (some ⟨c, 0, none⟩)), (1, .func (.yield r) #[] #[]), (11, .slice A2 X.length c2), (12, .int .i64 (X.length : Int)), (13, .int .i64 (k : Int))]) (fun k => I) (fun k => k ≤ X.length ∧ N k) (fun k => X.length - k) (0) ⟨Nat.zero_le _, hN0⟩ (H9.weak ⟨rfl, rfl, rfl, rfl, rfl, trivial⟩ rfl) ?_
    clear H9; intro k a10 wx10 hok10 H10
    obtain ⟨hk, hN⟩ := hok10
    refine wp_seq ?_
    refine reg ?_
    refine plain (y_lss rfl rfl rfl) rfl rfl rfl H10 ?_
    clear H10; intro a11 H11
    refine fin ?_
    refine then_n ?_
    refine wp_seq ?_
    refine cnd H11 rfl (fun hc12 => ?_) (fun hc12 => ?_) -- cond 2
    · skip
      try simp only [decide_eq_true_eq, decide_eq_false_iff_not, Bool.not_eq_true', Bool.not_eq_false', Bool.and_eq_true, Bool.not_eq_true, Bool.not_eq_false] at hc12
      have hhl : ((Tree.hashes (Tree.bl X)).getD k []).length = 32 := (Tree.hashes_h _).getD (by rw [Tree.hashes_len, Tree.bl_len]; omega)
      refine wp_skip ?_
      refine then_n ?_
      refine wp_seq ?_
      refine wp_block ?_
      refine wp_seq ?_
      refine reg ?_
      refine plain (y_move rfl rfl) rfl rfl rfl H11 ?_
      clear H11; intro a13 H13
      refine plain (y_ixR rfl Tryd.underlying75 z_size23 rfl rfl (by omega) (by omega) (rd_old hRu (by simp)) (by rw [Tree.hc_hs]; omega)) rfl rfl rfl H13 ?_
      clear H13; intro a14 H14
      refine plain (y_loadAS rfl z_agg23 z_size23 rfl (rd_old hRu (by simp)) (show _ = ((Tree.hashes (Tree.bl X)).getD k []).map u8 from hc_take _ (Tree.hashes_h _) (by rw [Tree.hashes_len, Tree.bl_len]; omega)) (by rw [List.length_map]; exact (Tree.hashes_h _).getD (by rw [Tree.hashes_len, Tree.bl_len]; omega)) (by decide)) rfl rfl rfl H14 ?_
      clear H14; intro a15 H15
      refine st_alloc rfl z_zeroN23 rfl rfl rfl H15 ?_
      clear H15; intro b16 a16 wx16 H16
      refine plain (y_assign rfl rfl) rfl rfl rfl H16 ?_
      clear H16; intro a17 H17
      refine st_storeN rfl z_size23 rfl rfl (agg_cells _) (by repeat (first | exact Uh | apply Ut)) q_one_b32 (q_len_b32 (by first | assumption | exact hhl)) (q_len_b32 (by first | assumption | exact hhl)) (q_spl_b32_0_b32 (by first | assumption | exact hhl) (by first | assumption | exact hhl)) (by decide) rfl rfl H17 ?_
      clear H17; intro wx18 H18
      refine fin ?_
      refine then_n ?_
      refine wp_seq ?_
      refine reg_wide ?_
      refine plainW (y_move rfl rfl) rfl rfl rfl H18 ?_
      clear H18; intro a19 H19
      refine plainW (y_move rfl rfl) rfl rfl rfl H19 ?_
      clear H19; intro a20 H20
      refine plainW (y_loadAB rfl z_agg23 z_size23 rfl (by repeat (first | exact Mh | apply Mt)) (q_ld_b32_0_32 (by first | assumption | exact hhl)) (q_len_b32 (by first | assumption | exact hhl))) rfl rfl rfl H20 ?_
      clear H20; intro a21 H21
      refine yieldW rfl rfl rfl rfl rfl rfl H21 (hY k _ (by omega) hN (H21.sep.sub (List.sublist_cons_self _ _))) ?_ ?_
      · rintro w22 a22 ⟨hN2, hs2⟩ F22
        refine plainW (y_not rfl rfl) rfl rfl rfl ⟨F22, hs2⟩ ?_
        clear H21; intro a23 H23
        refine wpListIn_nil ?_
        refine then_n ?_
        refine cnd H23 rfl (fun hc24 => absurd hc24 (by simp)) (fun hc24 => ?_)
        refine wp_skip ?_
        refine inb_n ?_
        refine then_n ?_
        refine reg ?_
        refine plain (y_add rfl rfl rfl (by first | exact w64 (by omega) (by omega) | rfl)) rfl rfl rfl H23 ?_
        clear H23; intro a25 H25
        refine plain (y_move rfl rfl) rfl rfl rfl H25 ?_
        clear H25; intro a26 H26
        refine fin ?_
        refine then_n ?_
        exact ⟨k + 1, by omega, ⟨by omega, hN2⟩, H26.weak ⟨rfl, rfl, rfl, rfl, fi rfl (by omega), trivial⟩ rfl⟩
      · rintro w22 a22 ⟨hM2, hs2⟩ F22
        refine plainW (y_not rfl rfl) rfl rfl rfl ⟨F22, hs2⟩ ?_
        clear H21; intro a23 H23
        refine wpListIn_nil ?_
        refine then_n ?_
        refine cnd H23 rfl (fun hc24 => ?_) (fun hc24 => absurd hc24 (by simp))
        refine wp_ret ?_
        refine inb_r ?_
        refine then_r ?_
        refine then_r ?_
        refine inb_r ?_
        refine ret0 rfl H23 ?_
        exact ⟨_, rfl, .inr ⟨k, by omega, hM2, H23.sep⟩⟩
    · skip
      try simp only [decide_eq_true_eq, decide_eq_false_iff_not, Bool.not_eq_true', Bool.not_eq_false', Bool.and_eq_true, Bool.not_eq_true, Bool.not_eq_false] at hc12
      refine wp_exit ?_
      refine then_x ?_
      refine then_x ?_
      refine inb_hit ?_
      -- return 3
      refine end0 rfl H11 ?_
      obtain rfl : k = X.length := by omega
      exact ⟨_, rfl, .inl ⟨hN, H11.sep⟩⟩

end Go.Proofs.YtlhddgkbbdfacaaDoor.C_Ea

set_option linter.unusedVariables false
set_option linter.unusedSimpArgs false
namespace Go.Proofs.YtlhddgkbbdfacaaDoor.C_Fd
open Go.Sx Go.RowKit Go.Proofs.YtlhddgkbbdfacaaDoor.C_Ea

theorem z_zeroN3 : zeroL Tryd.prog 3 = some ((.int .i64 0 :: [])) := by kernel_rfl
theorem z_zeroN4 : zeroL Tryd.prog 4 = some ((.bool false :: [])) := by kernel_rfl
theorem z_zeroN23 : zeroL Tryd.prog 23 = some ((List.replicate 32 (0 : UInt8)).map u8) := by kernel_rfl
theorem z_size23 : sizeB Tryd.prog 23 = some 32 := by kernel_rfl
theorem q_one_b32 {t0 : List UInt8} : (t0.map u8).all (·.oneCell') = true := (one_u8 _)
theorem q_len_b32 {t0 : List UInt8} (h0 : t0.length = 32) : (t0.map u8).length = 32 := (len_e (k := 32) h0)
theorem q_spl_b32_0_b32 {t0 : List UInt8} {s0 : List UInt8} (h0 : t0.length = 32) (g0 : s0.length = 32) : spl (t0.map u8) 0 (s0.map u8) = s0.map u8 := (spl_a (z := 32) (len_e (k := 32) h0) (len_e (k := 32) g0))
theorem z_agg23 : aggB Tryd.prog 23 = some true := by kernel_rfl
theorem q_ld_b32_0_32 {t0 : List UInt8} (h0 : t0.length = 32) : ((t0.map u8).drop 0).take 32 = t0.map u8 := (ld_a (len_e (k := 32) h0))
theorem z_size5 : sizeB Tryd.prog 5 = some 1 := by kernel_rfl
theorem z_size3 : sizeB Tryd.prog 3 = some 1 := by kernel_rfl
theorem q_len_c1 {a0 : Value} : (a0 :: []).length = 1 := (len_c (n := 0) len_n)
theorem q_set_c1_0 {a0 : Value} {v : Value} : (a0 :: []).set 0 v = v :: [] := set_0
theorem z_size4 : sizeB Tryd.prog 4 = some 1 := by kernel_rfl


theorem z_call44 : callB Tryd.prog 44 = true := by kernel_rfl
theorem no_lets2 {K : Act → World → Prop} {K2 : Act → World → Prop} : ¬ LetsOut (Exit.then K (Exit.then K2 fun _ _ _ => False)) := fun ⟨_, _, h⟩ => h
theorem no_lets3 {K : Act → World → Prop} {S : List Nat} {w0 : World} {x : It} {G B : List It → Prop} {id : Nat} : ¬ LetsOut (Exit.then K (Exit.inBlock id (RQ S w0 x G B))) := fun ⟨_, _, h⟩ => h
theorem no_lets4 {K : Act → World → Prop} {S : List Nat} {w0 : World} {x : It} {G B : List It → Prop} {id : Nat} : ¬ LetsOut (Exit.then K (Exit.inBlock id (RQ S w0 x G B))) := fun ⟨_, _, h⟩ => h
theorem z_agg3 : aggB Tryd.prog 3 = some false := by kernel_rfl
theorem z_agg4 : aggB Tryd.prog 4 = some false := by kernel_rfl

set_option maxRecDepth 100000 in
set_option maxHeartbeats 2000000 in
theorem tfindG (pv : Value) (hs : List (List UInt8)) (hH : H32 hs) (h : List UInt8) (hh : h.length = 32) {w : World}
    (hE : ∀ (r : Nat) (I : List It) (N M : Nat → Prop) (Ix : Nat → List It) (w1 : World), N 0 → Sep [] w w1 I →
      (∀ k w', k < hs.length → N k → Sep [] w w' I → YieldAt Fence.wide 0 Tryd.prog r [Value.int .i64 (k : Int), .agg ((hs.getD k []).map u8).toArray].toArray w' fun e W' => (e = .returned (.bool true) ∧ (N (k + 1) ∧ Sep [] w W' I)) ∨ (e = .returned (.bool false) ∧ (M k ∧ Sep [] w W' (Ix k)))) →
      Calls Tryd.prog 44 #[pv, .func (.yield r) #[] #[]] w1 fun e w' => ∃ v, e = .returned v ∧ ((N hs.length ∧ Sep [] w w' I) ∨ ∃ k, k < hs.length ∧ M k ∧ Sep [] w w' (Ix k))) :
    Calls Tryd.prog 29 #[pv, .agg (h.map u8).toArray] w (Gives (.tuple #[.int .i64 (Tree.find hs h).1, .bool (Tree.find hs h).2]) [] w) := by
  have lz32 : (List.replicate 32 (0 : UInt8)).length = 32 := List.length_replicate
  refine enterM (args := [pv, .agg (h.map u8).toArray]) Tryd.func29 rfl rfl (l := []) (Sep.refl _) ?_
  intro a0 H0
  refine wp_seq ?_
  refine reg ?_
  refine st_box rfl rfl (agg_cells _) rfl rfl rfl H0 ?_
  clear H0; intro b1 a1 wx1 H1
  refine st_alloc rfl z_zeroN3 rfl rfl rfl H1 ?_
  clear H1; intro b2 a2 wx2 H2
  refine st_alloc rfl z_zeroN4 rfl rfl rfl H2 ?_
  clear H2; intro b3 a3 wx3 H3
  refine fin ?_
  refine then_n ?_
  refine wp_seq ?_
  refine wp_seq ?_
  refine reg ?_
  refine plain (y_move rfl rfl) rfl rfl rfl H3 ?_
  clear H3; intro a4 H4
  refine plain (y_fn (xs := [.tmp 8]) (ys := []) rfl rfl rfl) rfl rfl rfl H4 ?_
  clear H4; intro a5 H5
  refine fin ?_
  refine then_n ?_
  refine wp_block ?_
  refine rangeW (gf := 44) (recv := pv) (lN := [It.blk b3 4 [.bool false], It.blk b2 3 [.int .i64 0], It.blk b1 23 (h.map u8)]) (GN := ∀ j, j < hs.length → hs.getD j [] ≠ h)
    (GM := fun lM => ∃ k, (k < hs.length ∧ hs.getD k [] = h ∧ ∀ j, j < k → hs.getD j [] ≠ h) ∧ lM = [It.blk b3 4 [.bool true], It.blk b2 3 [.int .i64 (k : Int)], It.blk b1 23 (h.map u8)]) rfl z_call44 H5 ?_ ?_ ?_
  · intro fn r D rc w1 hrc hs1
    refine (hE r _ (fun k => ∀ j, j < k → hs.getD j [] ≠ h) (fun k => hs.getD k [] = h ∧ ∀ j, j < k → hs.getD j [] ≠ h)
      (fun k => [It.obj r (.loop (rc .done (some .ret))), It.obj D (.deferred (some [])), It.blk b3 4 [.bool true], It.blk b2 3 [.int .i64 (k : Int)], It.blk b1 23 (h.map u8)]) w1 (fun j hj => absurd hj (by omega)) hs1 ?_).mono ?_
    · intro k w2 hk hN hs2
      have hhk : (hs.getD k []).length = 32 := hH.getD hk
      refine yield_mono (yield_of (P := Tryd.prog) (args := [Value.int .i64 (k : Int), .agg ((hs.getD k []).map u8).toArray])
        (G := fun lb => (∀ j, j < k + 1 → hs.getD j [] ≠ h) ∧ lb = [It.obj D (.deferred (some [])), It.blk b3 4 [.bool false], It.blk b2 3 [.int .i64 0], It.blk b1 23 (h.map u8)])
        (B := fun lb => (hs.getD k [] = h ∧ ∀ j, j < k → hs.getD j [] ≠ h) ∧ lb = [It.obj D (.deferred (some [])), It.blk b3 4 [.bool true], It.blk b2 3 [.int .i64 (k : Int)], It.blk b1 23 (h.map u8)]) hrc rfl hs2 ?_) ?_
      · have F6 := fr_round (p1 := 10) (p2 := 11) (v1 := .int .i64 (k : Int)) (v2 := .agg ((hs.getD k []).map u8).toArray) H5.fr (by decide) (by decide)
        have H6 := St.mk F6 hs2
        refine wpIn_seq ?_
        refine reg_round no_lets2 rfl ?_
        refine plain (y_assign rfl rfl) rfl rfl rfl H6 ?_
        clear H6; intro a7 H7
        refine fin ?_
        refine then_n ?_
        refine reg_round no_lets1 rfl ?_
        refine st_alloc rfl z_zeroN23 rfl rfl rfl H7 ?_
        clear H7; intro b7 a8 wx8 H8
        refine st_storeN rfl z_size23 rfl rfl (agg_cells _) (by repeat (first | exact Uh | apply Ut)) q_one_b32 (q_len_b32 hhk) (q_len_b32 (by assumption)) (q_spl_b32_0_b32 (by assumption) hhk) (by decide) rfl rfl H8 ?_
        clear H8; intro wx9 H9
        refine fin ?_
        refine then_n ?_
        refine ⟨_, H9.sep.perm (List.Perm.swap _ _ _), ?_⟩
        intro w10 hs10
        have H10 := St.mk H9.fr hs10
        refine wpIn_block ?_
        refine wpIn_seq ?_
        refine reg_round no_lets3 rfl ?_
        refine plain (y_loadAB rfl z_agg23 z_size23 rfl (by repeat (first | exact Mh | apply Mt)) (q_ld_b32_0_32 hhk) (q_len_b32 hhk)) rfl rfl rfl H10 ?_
        clear H10; intro a11 H11
        refine plain (y_loadAB rfl z_agg23 z_size23 rfl (by repeat (first | exact Mh | apply Mt)) (q_ld_b32_0_32 hh) (q_len_b32 hh)) rfl rfl rfl H11 ?_
        clear H11; intro a12 H12
        refine plain (y_heql rfl Tryd.eqGuardType23 Tryd.underlying23 Tryd.underlying5 z_size5 rfl rfl hhk hh) rfl rfl rfl H12 ?_
        clear H12; intro a13 H13
        refine fin ?_
        refine then_n ?_
        by_cases he : hs.getD k [] = h
        · refine wpIn_cond_true (by rw [H13.fr.ev (x := .tmp 14) rfl]; simp only [he, decide_true]) ?_
          refine wpIn_seq ?_
          refine reg_round no_lets4 rfl ?_
          refine plain (y_move rfl rfl) rfl rfl rfl H13 ?_
          clear H13; intro a14 H14
          refine st_store1N rfl z_size3 rfl rfl rfl (by repeat (first | exact Uh | apply Ut)) q_len_c1 q_set_c1_0 (by decide) rfl rfl H14 ?_
          clear H14; intro wx15 H15
          refine st_store1N rfl z_size4 rfl rfl rfl (by repeat (first | exact Uh | apply Ut)) q_len_c1 q_set_c1_0 (by decide) rfl rfl H15 ?_
          clear H15; intro wx16 H16
          refine fin ?_
          refine then_n ?_
          refine wpIn_ret ?_
          refine inb_r ?_
          exact ⟨_, H16.sep.sub (List.Sublist.cons_cons _ (List.sublist_cons_self _ _)), ⟨he, hN⟩, rfl⟩
        · refine wpIn_cond_false (by rw [H13.fr.ev (x := .tmp 14) rfl]; simp only [he, decide_false]) ?_
          refine wpIn_skip ?_
          refine inb_n ?_
          exact ⟨_, H13.sep.sub (List.Sublist.cons_cons _ (List.sublist_cons_self _ _)), fun j hj => by
            by_cases e : j = k
            · subst e; exact he
            · exact hN j (by omega), rfl⟩
      · rintro e W' (⟨rfl, lb, ⟨h1, rfl⟩, h3⟩ | ⟨rfl, lb, ⟨h1, rfl⟩, h3⟩)
        · exact .inl ⟨rfl, h1, h3⟩
        · exact .inr ⟨rfl, h1, h3⟩
    · rintro e w2 ⟨v, rfl, (⟨h1, h2⟩ | ⟨k, hk, h1, h2⟩)⟩
      · exact ⟨v, rfl, .inl ⟨h1, h2⟩⟩
      · exact ⟨v, rfl, .inr ⟨_, ⟨k, ⟨hk, h1⟩, rfl⟩, h2⟩⟩
  · intro D w3 hN hs3
    refine inb_n ?_
    refine then_n ?_
    refine wp_seq ?_
    refine reg_under ?_
    have H7 : St Tryd.f29.ntmps [] w _ _ { tmps := a5.tmps, defers := [] } w3 := ⟨⟨H5.fr.sz, rfl, H5.fr.ok⟩, hs3⟩
    refine st_store1N rfl z_size3 rfl rfl rfl (by repeat (first | exact Uh | apply Ut)) q_len_c1 q_set_c1_0 (by decide) rfl rfl H7 ?_
    clear H7; intro wx8 H8
    refine st_store1N rfl z_size4 rfl rfl rfl (by repeat (first | exact Uh | apply Ut)) q_len_c1 q_set_c1_0 (by decide) rfl rfl H8 ?_
    clear H8; intro wx9 H9
    refine fin ⟨rfl, ?_⟩
    refine then_n ?_
    refine wp_ret ?_
    refine retM H9.sep ?_
    intro w' hs'
    refine ⟨_, run_cc1 (a := { tmps := a5.tmps, defers := [] }) rfl H9.fr.ok hs' rfl z_agg3 (by repeat (first | exact Mh | apply Mt)) rfl z_agg4 (by repeat (first | exact Mh | apply Mt)), ?_⟩
    rw [Tree.find_none hN]
    exact ⟨_, [], rfl, ⟨rfl, rfl⟩, hs'.sub (List.nil_sublist _)⟩
  · rintro D w3 lM ⟨k, ⟨hk, h1, h2⟩, rfl⟩ hs3
    refine inb_r ?_
    refine then_r ?_
    refine retM hs3 ?_
    intro w' hs'
    refine ⟨_, run_cc1 (a := a5) rfl H5.fr.ok hs' rfl z_agg3 (by repeat (first | exact Mh | apply Mt)) rfl z_agg4 (by repeat (first | exact Mh | apply Mt)), ?_⟩
    rw [Tree.find_at hk h1 h2]
    exact ⟨_, [], rfl, ⟨rfl, rfl⟩, hs'.sub (List.nil_sublist _)⟩


theorem tfind (X : List Inbox.BA) (hX : Tree.Wfs X) (h0 : 0 < X.length) (hlen : X.length ≤ 4097) (dp de : Int) (c : Nat) (v u : Value) (h : List UInt8) (hh : h.length = 32) {w : World} (hc_ : (It.blk c 77 [v, u, i64 dp, i64 de]).P w) (hu_ : (It.row 23 32 u X.length (hc (Tree.hashes (Tree.bl X)))).P w) :
    Calls Tryd.prog 29 #[.pointer (some ⟨c, 0, none⟩), .agg (h.map u8).toArray] w (Gives (.tuple #[.int .i64 (Tree.find (Tree.hashes (Tree.bl X)) h).1, .bool (Tree.find (Tree.hashes (Tree.bl X)) h).2]) [] w) := by
  have hl : (Tree.hashes (Tree.bl X)).length = X.length := by rw [Tree.hashes_len, Tree.bl_len]
  refine tfindG _ _ (Tree.hashes_h _) h hh fun r I N M Ix w1 hN hs hY => ?_
  rw [hl] at hY ⊢
  exact teach X hX h0 hlen dp de c v u hc_ hu_ r I N M Ix hN hs hY

end Go.Proofs.YtlhddgkbbdfacaaDoor.C_Fd

set_option linter.unusedVariables false
set_option linter.unusedSimpArgs false
namespace Go.Proofs.YtlhddgkbbdfacaaDoor.C_Aw
open Go.Sx Go.RowKit Go.Proofs.YtlhddgkbbdfacaaDoor.C_Block Go.Proofs.YtlhddgkbbdfacaaDoor.C_Sum Go.Proofs.YtlhddgkbbdfacaaDoor.C_Ref Go.Proofs.YtlhddgkbbdfacaaDoor.C_RSum Go.Proofs.YtlhddgkbbdfacaaDoor.C_Num Go.Proofs.YtlhddgkbbdfacaaDoor.C_Lay Go.Proofs.YtlhddgkbbdfacaaDoor.C_Leaf Go.Proofs.YtlhddgkbbdfacaaDoor.C_Item Go.Proofs.YtlhddgkbbdfacaaDoor.C_RefI Go.Proofs.YtlhddgkbbdfacaaDoor.C_Eq Go.Proofs.YtlhddgkbbdfacaaDoor.C_Hash Go.Proofs.YtlhddgkbbdfacaaDoor.C_Nx Go.Proofs.YtlhddgkbbdfacaaDoor.C_Sm Go.Proofs.YtlhddgkbbdfacaaDoor.C_New Go.Proofs.YtlhddgkbbdfacaaDoor.C_Mine Go.Proofs.YtlhddgkbbdfacaaDoor.C_Ea Go.Proofs.YtlhddgkbbdfacaaDoor.C_Fd

theorem z_call12 : callB Tryd.prog 12 = true := by kernel_rfl
theorem z_call13 : callB Tryd.prog 13 = true := by kernel_rfl
theorem z_zeroN23 : zeroL Tryd.prog 23 = some ((List.replicate 32 (0 : UInt8)).map u8) := by kernel_rfl
theorem z_size23 : sizeB Tryd.prog 23 = some 32 := by kernel_rfl
theorem q_one_b32 {t0 : List UInt8} : (t0.map u8).all (·.oneCell') = true := (one_u8 _)
theorem q_len_b32 {t0 : List UInt8} (h0 : t0.length = 32) : (t0.map u8).length = 32 := (len_e (k := 32) h0)
theorem q_spl_b32_0_b32 {t0 : List UInt8} {s0 : List UInt8} (h0 : t0.length = 32) (g0 : s0.length = 32) : spl (t0.map u8) 0 (s0.map u8) = s0.map u8 := (spl_a (z := 32) (len_e (k := 32) h0) (len_e (k := 32) g0))
theorem z_agg23 : aggB Tryd.prog 23 = some true := by kernel_rfl
theorem q_ld_b32_0_32 {t0 : List UInt8} (h0 : t0.length = 32) : ((t0.map u8).drop 0).take 32 = t0.map u8 := (ld_a (len_e (k := 32) h0))
theorem z_call29 : callB Tryd.prog 29 = true := by kernel_rfl
theorem z_call21 : callB Tryd.prog 21 = true := by kernel_rfl
theorem z_call18 : callB Tryd.prog 18 = true := by kernel_rfl

set_option maxRecDepth 100000 in
set_option maxHeartbeats 4000000 in
theorem awake {w : World} (hG : Glob 0 Sha.K w) : Calls Tryd.prog 11 #[] w (Gives (.bool true) [] w) := by
 have hZl : Note.Z.length = 32 := Note.Z_len
 have lz32 : (List.replicate 32 (0 : UInt8)).length = 32 := List.length_replicate
 refine enterL (args := []) Tryd.func11 rfl rfl (l := []) (Sep.refl _) ?_
 intro a0 H0
 refine wp_seq ?_
 refine reg ?_
 refine plain (y_assign rfl rfl) rfl rfl rfl H0 ?_
 clear H0; intro a1 H1
 refine fin ?_
 refine then_n ?_
 refine wp_seq ?_
 refine reg ?_
 refine st_call rfl z_call12 rfl rfl rfl rfl H1 (tnew 1 (by decide) (hG.frm H1.sep.frm (by simp))) ?_
 clear H1; intro v2 l2 a2 wx2 hf2 H2
 obtain ⟨c, v, u, rfl, rfl⟩ := hf2
 simp only [List.cons_append, List.nil_append] at H2
 refine plain (y_move rfl rfl) rfl rfl rfl H2 ?_
 clear H2; intro a3 H3
 refine plain (y_extract rfl rfl rfl) rfl rfl rfl H3 ?_
 clear H3; intro a4 H4
 refine plain (y_extract rfl rfl rfl) rfl rfl rfl H4 ?_
 clear H4; intro a5 H5
 refine plain (y_assign rfl rfl) rfl rfl rfl H5 ?_
 clear H5; intro a6 H6
 refine plain (y_assign rfl rfl) rfl rfl rfl H6 ?_
 clear H6; intro a7 H7
 refine fin ?_
 refine then_n ?_
 refine wp_seq ?_
 refine wp_seq ?_
 refine reg ?_
 refine plain (y_move rfl rfl) rfl rfl rfl H7 ?_
 clear H7; intro a8 H8
 refine plain (y_neq rfl rfl rfl) rfl rfl rfl H8 ?_
 clear H8; intro a9 H9
 refine plain (y_move rfl rfl) rfl rfl rfl H9 ?_
 clear H9; intro a10 H10
 have H12 := H10.know (d := 13) (v := .bool false) rfl (congrArg Value.bool (decide_eq_false (by decide)))
 clear H10
 refine plain (y_move rfl rfl) rfl rfl rfl H12 ?_
 clear H12; intro a13 H13
 refine plain (y_peql rfl Tryd.underlying33 rfl rfl) rfl rfl rfl H13 ?_
 clear H13; intro a14 H14
 refine plain (y_pick_f rfl rfl rfl) rfl rfl rfl H14 ?_
 clear H14; intro a15 H15
 refine fin ?_
 refine then_n ?_
 refine cnd H15 rfl (fun hc16 => ?_) (fun hc16 => ?_) -- cond 1
 ·(try simp only [decide_eq_true_eq, decide_eq_false_iff_not, Bool.not_eq_true', Bool.not_eq_false', Bool.and_eq_true, Bool.not_eq_true, Bool.not_eq_false] at hc16); (exfalso; simp at hc16)
 ·skip
  try simp only [decide_eq_true_eq, decide_eq_false_iff_not, Bool.not_eq_true', Bool.not_eq_false', Bool.and_eq_true, Bool.not_eq_true, Bool.not_eq_false] at hc16
  refine wp_skip ?_
  refine then_n ?_
  refine wp_seq ?_
  refine reg ?_
  refine plain (y_move rfl rfl) rfl rfl rfl H15 ?_
  clear H15; intro a17 H17
  refine st_callk2 (is := [It.row 26 35 v [Inbox.BA.zero].length (Inbox.bc [Inbox.BA.zero]), It.row 23 32 u [Inbox.BA.zero].length (hc (Tree.hashes (Tree.bl [Inbox.BA.zero]))), It.blk c 77 [v, u, i64 1, i64 0], (Tree.It.fz [Inbox.BA.zero])]) (enters_call rfl z_call13 rfl) rfl rfl rfl H17 (.cons PP (.cons PP (.cons PP (.cons PP (.nil _))))) (fun hs => tmine [Inbox.BA.zero] (Tree.Wfs.one Tree.w0_zero) (by decide) (by decide) 1 0 c v u 0 (by decide) none 0 [] (fun _ h => absurd h (by simp)) (by decide) hs (fun _ _ => Rd.nil _ _) (hG.frm H17.sep.frm (by simp)) (fps_new H17.sep (.cons PP (.cons PP (.cons PP (.cons PP (.nil _))))) hG (by decide))) ?_
  clear H17; intro v18 l18 a18 wx18 hf18 H18
  obtain ⟨X1, v1, u1, ⟨hX1, hW1⟩, rfl, rfl⟩ := hf18
  simp only [List.cons_append, List.nil_append] at H18
  simp only [Tree.aw_mx1] at H18
  have hb1 := Tree.aw_x1 hX1
  have hl1 := Tree.aw_l1 hb1
  refine plain (y_move rfl rfl) rfl rfl rfl H18 ?_
  clear H18; intro a19 H19
  refine plain (y_extract rfl rfl rfl) rfl rfl rfl H19 ?_
  clear H19; intro a20 H20
  refine plain (y_extract rfl rfl rfl) rfl rfl rfl H20 ?_
  clear H20; intro a21 H21
  refine st_alloc rfl z_zeroN23 rfl rfl rfl H21 ?_
  clear H21; intro b22 a22 wx22 H22
  refine st_storeN rfl z_size23 rfl rfl (agg_cells _) UU q_one_b32 (q_len_b32 (by first | assumption | exact Tree.hash_len _)) (q_len_b32 (by first | assumption | exact Tree.hash_len _)) (q_spl_b32_0_b32 (by first | assumption | exact Tree.hash_len _) (by first | assumption | exact Tree.hash_len _)) (by decide) rfl rfl H22 ?_
  clear H22; intro wx23 H23
  refine plain (y_assign rfl rfl) rfl rfl rfl H23 ?_
  clear H23; intro a24 H24
  refine fin ?_
  refine then_n ?_
  refine wp_seq ?_
  refine reg ?_
  refine plain (y_move rfl rfl) rfl rfl rfl H24 ?_
  clear H24; intro a25 H25
  refine st_callk2 (is := [It.row 26 35 v1 X1.length (Inbox.bc X1), It.row 23 32 u1 X1.length (hc (Tree.hashes (Tree.bl X1))), It.blk c 77 [v1, u1, i64 1, i64 0], (Tree.It.fz X1)]) (enters_call rfl z_call13 rfl) rfl rfl rfl H25 (.cons PP (.cons PP (.cons PP (.cons PP (.nil _))))) (fun hs => tmine X1 hW1 (by omega) (by omega) 1 0 c v1 u1 0 (by decide) none 0 [] (fun _ h => absurd h (by simp)) (by decide) hs (fun _ _ => Rd.nil _ _) (hG.frm H25.sep.frm (by simp)) (fps_new H25.sep (.cons PP (.cons PP (.cons PP (.cons PP (.nil _))))) hG (by decide))) ?_
  clear H25; intro v26 l26 a26 wx26 hf26 H26
  obtain ⟨X2, v2, u2, ⟨hX2, hW2⟩, rfl, rfl⟩ := hf26
  simp only [List.cons_append, List.nil_append] at H26
  have hb2 := Tree.aw_x2 hb1 hX2
  have hl2 := Tree.aw_l2 hb2
  have hfi := Tree.aw_fin hb2
  refine fin ?_
  refine then_n ?_
  refine wp_seq ?_
  refine reg ?_
  refine plain (y_move rfl rfl) rfl rfl rfl H26 ?_
  clear H26; intro a27 H27
  refine plain (y_loadAB rfl z_agg23 z_size23 rfl MM (q_ld_b32_0_32 (by first | assumption | exact Tree.hash_len _)) (q_len_b32 (by first | assumption | exact Tree.hash_len _))) rfl rfl rfl H27 ?_
  clear H27; intro a28 H28
  refine st_callg rfl z_call29 rfl rfl rfl rfl H28 (tfind X2 hW2 (by omega) (by omega) 1 0 c v2 u2 (Tree.hash Tree.awB1).1 (Tree.hash_len _) (H28.sep.all _ MM) (H28.sep.all _ MM)) ?_
  clear H28; intro a29 wx29 H29
  refine plain (y_move rfl rfl) rfl rfl rfl H29 ?_
  clear H29; intro a30 H30
  simp only [Tree.aw_fd hb2] at H30
  refine plain (y_extract rfl rfl rfl) rfl rfl rfl H30 ?_
  clear H30; intro a31 H31
  refine plain (y_extract rfl rfl rfl) rfl rfl rfl H31 ?_
  clear H31; intro a32 H32
  refine plain (y_assign rfl rfl) rfl rfl rfl H32 ?_
  clear H32; intro a33 H33
  refine plain (y_assign rfl rfl) rfl rfl rfl H33 ?_
  clear H33; intro a34 H34
  refine fin ?_
  refine then_n ?_
  refine wp_seq ?_
  refine reg ?_
  refine plain (y_move rfl rfl) rfl rfl rfl H34 ?_
  clear H34; intro a35 H35
  refine plain (y_eql rfl rfl rfl) rfl rfl rfl H35 ?_
  clear H35; intro a36 H36
  refine plain (y_move rfl rfl) rfl rfl rfl H36 ?_
  clear H36; intro a37 H37
  have H39 := H37.know (d := 32) (v := .bool true) rfl ((by first | rfl | exact congrArg Value.bool (decide_eq_true (by first | decide | omega))))
  clear H37
  refine plain (y_move rfl rfl) rfl rfl rfl H39 ?_
  clear H39; intro a40 H40
  refine plain (y_eql rfl rfl rfl) rfl rfl rfl H40 ?_
  clear H40; intro a41 H41
  refine plain (y_pick_t rfl rfl rfl) rfl rfl rfl H41 ?_
  clear H41; intro a42 H42
  refine plain (y_move rfl rfl) rfl rfl rfl H42 ?_
  clear H42; intro a43 H43
  have H45 := H43.know (d := 36) (v := .bool true) rfl ((by first | rfl | exact congrArg Value.bool (decide_eq_true (by first | decide | omega))))
  clear H43
  refine plain (y_move rfl rfl) rfl rfl rfl H45 ?_
  clear H45; intro a46 H46
  refine plain (y_pick_t rfl rfl rfl) rfl rfl rfl H46 ?_
  clear H46; intro a47 H47
  refine plain (y_move rfl rfl) rfl rfl rfl H47 ?_
  clear H47; intro a48 H48
  have H50 := H48.know (d := 39) (v := .bool true) rfl ((by first | rfl | exact congrArg Value.bool (decide_eq_true (by first | decide | omega))))
  clear H48
  refine plain (y_move rfl rfl) rfl rfl rfl H50 ?_
  clear H50; intro a51 H51
  refine st_callg rfl z_call21 rfl rfl rfl rfl H51 (theight X2 hW2 (by omega) (by omega) 1 0 c v2 u2 (H51.sep.all _ MM) (H51.sep.all _ MM)) ?_
  clear H51; intro a52 wx52 H52
  refine plain (y_eql rfl rfl rfl) rfl rfl rfl H52 ?_
  clear H52; intro a53 H53
  refine plain (y_pick_t rfl rfl rfl) rfl rfl rfl H53 ?_
  clear H53; intro a54 H54
  refine plain (y_move rfl rfl) rfl rfl rfl H54 ?_
  clear H54; intro a55 H55
  have H57 := H55.know (d := 44) (v := .bool true) rfl ((by first | rfl | exact congrArg Value.bool (decide_eq_true (by first | decide | omega))))
  clear H55
  refine plain (y_move rfl rfl) rfl rfl rfl H57 ?_
  clear H57; intro a58 H58
  refine st_callg rfl z_call18 rfl rfl rfl rfl H58 (tfinal X2 hW2 (by omega) (by omega) 1 0 c v2 u2 (by decide) (by decide) (H58.sep.all _ MM) (H58.sep.all _ MM)) ?_
  clear H58; intro a59 wx59 H59
  simp only [hfi] at H59
  refine plain (y_eql rfl rfl rfl) rfl rfl rfl H59 ?_
  clear H59; intro a60 H60
  refine plain (y_pick_t rfl rfl rfl) rfl rfl rfl H60 ?_
  clear H60; intro a61 H61
  refine plain (y_assign rfl rfl) rfl rfl rfl H61 ?_
  clear H61; intro a62 H62
  refine fin ?_
  refine then_n ?_
  refine wp_ret ?_
  -- return 1
  refine ret1 rfl H62 rfl ?_
  exact ⟨_, [], rfl, ⟨by first | rfl | exact congrArg Value.bool (decide_eq_true (by first | decide | omega)), rfl⟩, H62.sep.sub (List.nil_sublist _)⟩

end Go.Proofs.YtlhddgkbbdfacaaDoor.C_Aw

set_option linter.unusedVariables false
set_option linter.unusedSimpArgs false
namespace Go.Proofs.YtlhddgkbbdfacaaDoor.C_Fw
open Go.Sx Go.RowKit

theorem z_size24 : sizeB Tryd.prog 24 = some 1 := by kernel_rfl
theorem z_agg24 : aggB Tryd.prog 24 = some false := by kernel_rfl

set_option maxRecDepth 100000 in
set_option maxHeartbeats 1000000 in
theorem lfirst (D : Option Addr) (cd : Nat) (bs : List Tree.IA) {w : World} (hRD : Rd w D (Tree.iac bs)) : Calls Tryd.prog 14 #[.slice D bs.length cd] w (Gives (.slice (bs.getD 0 Tree.IA.zero).A (bs.getD 0 Tree.IA.zero).l.length (bs.getD 0 Tree.IA.zero).c) [] w) := by
 have lz32 : (List.replicate 32 (0 : UInt8)).length = 32 := List.length_replicate
 refine enterL (args := [.slice D bs.length cd]) Tryd.func14 rfl rfl (l := []) (Sep.refl _) ?_
 intro a0 H0
 refine wp_seq ?_
 refine reg ?_
 refine plain (y_assign rfl rfl) rfl rfl rfl H0 ?_
 clear H0; intro a1 H1
 refine fin ?_
 refine then_n ?_
 refine wp_seq ?_
 refine wp_seq ?_
 refine reg ?_
 refine plain (y_move rfl rfl) rfl rfl rfl H1 ?_
 clear H1; intro a2 H2
 refine plain (y_len rfl Tryd.underlying37 rfl) rfl rfl rfl H2 ?_
 clear H2; intro a3 H3
 refine plain (y_eql rfl rfl rfl) rfl rfl rfl H3 ?_
 clear H3; intro a4 H4
 refine fin ?_
 refine then_n ?_
 refine cnd H4 rfl (fun hc5 => ?_) (fun hc5 => ?_) -- cond 1
 ·skip
  try simp only [decide_eq_true_eq, decide_eq_false_iff_not, Bool.not_eq_true', Bool.not_eq_false', Bool.and_eq_true, Bool.not_eq_true, Bool.not_eq_false] at hc5
  obtain rfl : bs = [] := List.length_eq_zero_iff.1 (by omega)
  refine wp_seq ?_
  refine reg ?_
  refine plain (y_assign rfl rfl) rfl rfl rfl H4 ?_
  clear H4; intro a6 H6
  refine fin ?_
  refine then_n ?_
  refine wp_ret ?_
  refine then_r ?_
  -- return 1
  refine ret1 rfl H6 rfl ?_
  exact ⟨_, [], rfl, ⟨rfl, rfl⟩, H6.sep.sub (List.nil_sublist _)⟩
 ·skip
  try simp only [decide_eq_true_eq, decide_eq_false_iff_not, Bool.not_eq_true', Bool.not_eq_false', Bool.and_eq_true, Bool.not_eq_true, Bool.not_eq_false] at hc5
  refine wp_skip ?_
  refine then_n ?_
  refine wp_seq ?_
  refine reg ?_
  refine plain (y_move rfl rfl) rfl rfl rfl H4 ?_
  clear H4; intro a7 H7
  refine plain (y_ixR rfl Tryd.underlying37 z_size24 rfl rfl (by omega) (by omega) (rd_old hRD (by simp)) (by rw [Tree.iac_len]; omega)) rfl rfl rfl H7 ?_
  clear H7; intro a8 H8
  refine plain (y_loadR rfl z_agg24 rfl (rd_old hRD (by simp)) (Tree.iac_at (k := 0) (by omega))) rfl rfl rfl H8 ?_
  clear H8; intro a9 H9
  refine plain (y_assign rfl rfl) rfl rfl rfl H9 ?_
  clear H9; intro a10 H10
  refine fin ?_
  refine then_n ?_
  refine wp_ret ?_
  -- return 2
  refine ret1 rfl H10 rfl ?_
  exact ⟨_, [], rfl, ⟨rfl, rfl⟩, H10.sep.sub (List.nil_sublist _)⟩
set_option maxRecDepth 100000 in
set_option maxHeartbeats 1000000 in
theorem lfew (D : Option Addr) (cd : Nat) (bs : List Tree.IA) (hcd : bs.length ≤ cd) {w : World} (hRD : Rd w D (Tree.iac bs)) : Calls Tryd.prog 16 #[.slice D bs.length cd] w (Gives (.slice D (bs.take 12).length cd) [] w) := by
 have lz32 : (List.replicate 32 (0 : UInt8)).length = 32 := List.length_replicate
 refine enterL (args := [.slice D bs.length cd]) Tryd.func16 rfl rfl (l := []) (Sep.refl _) ?_
 intro a0 H0
 refine wp_seq ?_
 refine reg ?_
 refine plain (y_assign rfl rfl) rfl rfl rfl H0 ?_
 clear H0; intro a1 H1
 refine fin ?_
 refine then_n ?_
 refine wp_seq ?_
 refine wp_seq ?_
 refine reg ?_
 refine plain (y_move rfl rfl) rfl rfl rfl H1 ?_
 clear H1; intro a2 H2
 refine plain (y_len rfl Tryd.underlying37 rfl) rfl rfl rfl H2 ?_
 clear H2; intro a3 H3
 refine plain (y_gtr rfl rfl rfl) rfl rfl rfl H3 ?_
 clear H3; intro a4 H4
 refine fin ?_
 refine then_n ?_
 refine cnd H4 rfl (fun hc5 => ?_) (fun hc5 => ?_) -- cond 1
 ·skip
  try simp only [decide_eq_true_eq, decide_eq_false_iff_not, Bool.not_eq_true', Bool.not_eq_false', Bool.and_eq_true, Bool.not_eq_true, Bool.not_eq_false] at hc5
  refine wp_seq ?_
  refine reg ?_
  refine plain (y_move rfl rfl) rfl rfl rfl H4 ?_
  clear H4; intro a6 H6
  refine plain (y_slS_hi rfl Tryd.underlying37 z_size24 rfl rfl (by omega) (by omega) (by omega)) rfl rfl rfl H6 ?_
  clear H6; intro a7 H7
  refine plain (y_assign rfl rfl) rfl rfl rfl H7 ?_
  clear H7; intro a8 H8
  refine fin ?_
  refine then_n ?_
  refine wp_ret ?_
  refine then_r ?_
  -- return 1
  refine ret1 rfl H8 rfl ?_
  exact ⟨_, [], rfl, ⟨by rw [List.length_take, Nat.min_eq_left (by omega)]; rfl, rfl⟩, H8.sep.sub (List.nil_sublist _)⟩
 ·skip
  try simp only [decide_eq_true_eq, decide_eq_false_iff_not, Bool.not_eq_true', Bool.not_eq_false', Bool.and_eq_true, Bool.not_eq_true, Bool.not_eq_false] at hc5
  refine wp_skip ?_
  refine then_n ?_
  refine wp_seq ?_
  refine reg ?_
  refine plain (y_move rfl rfl) rfl rfl rfl H4 ?_
  clear H4; intro a9 H9
  refine plain (y_assign rfl rfl) rfl rfl rfl H9 ?_
  clear H9; intro a10 H10
  refine fin ?_
  refine then_n ?_
  refine wp_ret ?_
  -- return 2
  refine ret1 rfl H10 rfl ?_
  exact ⟨_, [], rfl, ⟨by rw [List.length_take, Nat.min_eq_right (by omega)], rfl⟩, H10.sep.sub (List.nil_sublist _)⟩

end Go.Proofs.YtlhddgkbbdfacaaDoor.C_Fw

set_option linter.unusedVariables false
set_option linter.unusedSimpArgs false
namespace Go.Proofs.YtlhddgkbbdfacaaDoor.C_Rc
open Go.Sx Go.RowKit Go.Proofs.YtlhddgkbbdfacaaDoor.C_Block Go.Proofs.YtlhddgkbbdfacaaDoor.C_Sum Go.Proofs.YtlhddgkbbdfacaaDoor.C_Ref Go.Proofs.YtlhddgkbbdfacaaDoor.C_RSum Go.Proofs.YtlhddgkbbdfacaaDoor.C_Num Go.Proofs.YtlhddgkbbdfacaaDoor.C_Lay Go.Proofs.YtlhddgkbbdfacaaDoor.C_Leaf Go.Proofs.YtlhddgkbbdfacaaDoor.C_Item Go.Proofs.YtlhddgkbbdfacaaDoor.C_RefI Go.Proofs.YtlhddgkbbdfacaaDoor.C_Eq Go.Proofs.YtlhddgkbbdfacaaDoor.C_Hash Go.Proofs.YtlhddgkbbdfacaaDoor.C_Nx Go.Proofs.YtlhddgkbbdfacaaDoor.C_Sm

theorem z_zeroN26 : zeroL Tryd.prog 26 = some ((.int .i64 0 :: (.int .i64 0 :: ((List.replicate 32 (0 : UInt8)).map u8 ++ (.slice none 0 0 :: []))))) := by kernel_rfl
theorem z_places26 : placesB Tryd.prog 26 = some [(0, 1), (1, 1), (2, 32), (34, 1)] := by kernel_rfl
theorem z_size26 : sizeB Tryd.prog 26 = some 35 := by kernel_rfl
theorem z_zero26 : zeroL Tryd.prog 26 = some ([.int .i64 0, .int .i64 0, .int .u8 0, .int .u8 0, .int .u8 0, .int .u8 0, .int .u8 0, .int .u8 0, .int .u8 0, .int .u8 0, .int .u8 0, .int .u8 0, .int .u8 0, .int .u8 0, .int .u8 0, .int .u8 0, .int .u8 0, .int .u8 0, .int .u8 0, .int .u8 0, .int .u8 0, .int .u8 0, .int .u8 0, .int .u8 0, .int .u8 0, .int .u8 0, .int .u8 0, .int .u8 0, .int .u8 0, .int .u8 0, .int .u8 0, .int .u8 0, .int .u8 0, .int .u8 0, .slice none 0 0]) := by kernel_rfl
theorem z_zeroN56 : zeroL Tryd.prog 56 = some ((.slice none 0 0 :: (.int .i64 0 :: (.int .i64 0 :: [])))) := by kernel_rfl
theorem z_places56 : placesB Tryd.prog 56 = some [(0, 1), (1, 1), (2, 1)] := by kernel_rfl
theorem q_len_c3 {a0 a1 a2 : Value} : (a0 :: a1 :: a2 :: []).length = 3 := (len_c (n := 2) (len_c (n := 1) (len_c (n := 0) len_n)))
theorem q_spl_c3_0_c1 {a0 a1 a2 : Value} {b0 : Value} : spl (a0 :: a1 :: a2 :: []) 0 (b0 :: []) = b0 :: a1 :: a2 :: [] := spl_0
theorem q_spl_c3_1_c1 {a0 a1 a2 : Value} {b0 : Value} : spl (a0 :: a1 :: a2 :: []) 1 (b0 :: []) = a0 :: b0 :: a2 :: [] := (spl_c (o := 0) spl_0)
theorem z_field56_0 : fieldB Tryd.prog 56 0 = some 0 := by kernel_rfl
theorem z_agg36 : aggB Tryd.prog 36 = some false := by kernel_rfl
theorem z_call25 : callB Tryd.prog 25 = true := by kernel_rfl
theorem z_field56_1 : fieldB Tryd.prog 56 1 = some 1 := by kernel_rfl
theorem z_agg3 : aggB Tryd.prog 3 = some false := by kernel_rfl

set_option maxRecDepth 100000 in
set_option maxHeartbeats 1000000 in
theorem rcnew (dp : Int) (h1 : 0 ≤ dp ∧ dp ≤ 4096) (w : World) : Calls Tryd.prog 23 #[.int .i64 dp] w (Post [] w fun r l' => ∃ rx v, r = .tuple #[.pointer (some ⟨rx, 0, none⟩), .int .i64 0] ∧ l' = [It.row 26 35 v [Inbox.BA.zero].length (Inbox.bc [Inbox.BA.zero]), It.blk rx 56 [v, i64 dp, i64 0]]) := by
 have hZl : Note.Z.length = 32 := Note.Z_len
 have lz32 : (List.replicate 32 (0 : UInt8)).length = 32 := List.length_replicate
 refine enterL (args := [.int .i64 dp]) Tryd.func23 rfl rfl (l := []) (Sep.refl _) ?_
 intro a0 H0
 refine wp_seq ?_
 refine reg ?_
 refine plain (y_assign rfl rfl) rfl rfl rfl H0 ?_
 clear H0; intro a1 H1
 refine plain (y_assign rfl rfl) rfl rfl rfl H1 ?_
 clear H1; intro a2 H2
 refine fin ?_
 refine then_n ?_
 refine wp_seq ?_
 refine wp_seq ?_
 refine reg ?_
 refine plain (y_move rfl rfl) rfl rfl rfl H2 ?_
 clear H2; intro a3 H3
 refine plain (y_lss rfl rfl rfl) rfl rfl rfl H3 ?_
 clear H3; intro a4 H4
 refine plain (y_move rfl rfl) rfl rfl rfl H4 ?_
 clear H4; intro a5 H5
 have H7 := H5.know (d := 6) (v := .bool false) rfl (congrArg Value.bool (decide_eq_false (by omega)))
 clear H5
 refine plain (y_move rfl rfl) rfl rfl rfl H7 ?_
 clear H7; intro a8 H8
 refine plain (y_gtr rfl rfl rfl) rfl rfl rfl H8 ?_
 clear H8; intro a9 H9
 refine plain (y_pick_f rfl rfl rfl) rfl rfl rfl H9 ?_
 clear H9; intro a10 H10
 refine fin ?_
 refine then_n ?_
 refine cnd H10 rfl (fun hc11 => ?_) (fun hc11 => ?_) -- cond 1
 ·(try simp only [decide_eq_true_eq, decide_eq_false_iff_not, Bool.not_eq_true', Bool.not_eq_false', Bool.and_eq_true, Bool.not_eq_true, Bool.not_eq_false] at hc11); (exfalso; omega)
 ·skip
  try simp only [decide_eq_true_eq, decide_eq_false_iff_not, Bool.not_eq_true', Bool.not_eq_false', Bool.and_eq_true, Bool.not_eq_true, Bool.not_eq_false] at hc11
  refine wp_skip ?_
  refine then_n ?_
  refine wp_seq ?_
  refine reg ?_
  refine plain (y_build rfl z_zeroN26 z_places26 rfl lay_n) rfl rfl rfl H10 ?_
  clear H10; intro a12 H12
  refine st_buildSlice rfl Tryd.underlying36 z_size26 z_zero26 rfl rfl rfl (lay_agg (agg_cells _) (Inbox.BA.cells_len (x := Inbox.BA.zero) rfl) rfl) rfl rfl rfl H12 ?_
  clear H12; intro b13 a13 wx13 H13
  refine plain (y_move rfl rfl) rfl rfl rfl H13 ?_
  clear H13; intro a14 H14
  refine plain (y_build rfl z_zeroN56 z_places56 rfl (lay_1 (off := 0) (n := 3) rfl q_len_c3 (by decide) q_spl_c3_0_c1 (lay_1 (off := 1) (n := 3) rfl q_len_c3 (by decide) q_spl_c3_1_c1 lay_n (by rfl)) (by rfl))) rfl rfl rfl H14 ?_
  clear H14; intro a15 H15
  refine st_box rfl rfl (agg_cells _) rfl rfl rfl H15 ?_
  clear H15; intro b16 a16 wx16 H16
  refine plain (y_assign rfl rfl) rfl rfl rfl H16 ?_
  clear H16; intro a17 H17
  refine plain (y_assign rfl rfl) rfl rfl rfl H17 ?_
  clear H17; intro a18 H18
  refine fin ?_
  refine then_n ?_
  refine wp_ret ?_
  -- return 1
  refine ret2 rfl H18 rfl rfl ?_
  first | (exfalso; omega) | skip
  replace H18 := H18.asRow (b := b13) (size := 35) (m := 1) UU rfl (by unfold maxLen; omega)
  have hq2 := (H18.only (is := [It.row 26 35 (.slice (some ⟨b13, 0, none⟩) 1 1) [Inbox.BA.zero].length (Inbox.bc [Inbox.BA.zero]), It.blk b16 56 [(.slice (some ⟨b13, 0, none⟩) 1 1), i64 dp, i64 0]]) (.cons PP (.cons PP (.nil _))))
  exact ⟨_, _, rfl, ⟨_, _, rfl, rfl⟩, hq2.sep⟩
set_option maxRecDepth 100000 in
set_option maxHeartbeats 1000000 in
theorem rcnewBad (dp : Int) (h1 : ¬ (0 ≤ dp ∧ dp ≤ 4096)) (w : World) : Calls Tryd.prog 23 #[.int .i64 dp] w (Gives (.tuple #[.pointer none, .int .i64 2]) [] w) := by
 have lz32 : (List.replicate 32 (0 : UInt8)).length = 32 := List.length_replicate
 refine enterL (args := [.int .i64 dp]) Tryd.func23 rfl rfl (l := []) (Sep.refl _) ?_
 intro a0 H0
 refine wp_seq ?_
 refine reg ?_
 refine plain (y_assign rfl rfl) rfl rfl rfl H0 ?_
 clear H0; intro a1 H1
 refine plain (y_assign rfl rfl) rfl rfl rfl H1 ?_
 clear H1; intro a2 H2
 refine fin ?_
 refine then_n ?_
 refine wp_seq ?_
 refine wp_seq ?_
 refine reg ?_
 refine plain (y_move rfl rfl) rfl rfl rfl H2 ?_
 clear H2; intro a3 H3
 refine plain (y_lss rfl rfl rfl) rfl rfl rfl H3 ?_
 clear H3; intro a4 H4
 refine plain (y_move rfl rfl) rfl rfl rfl H4 ?_
 clear H4; intro a5 H5
 refine Sx.part (d := 6) H5 rfl (fun hg6 => ?_) (fun hg6 => ?_)
 ·first
  |fail
  |skip
   clear H5; intro H7
   try simp only [decide_eq_true_eq, decide_eq_false_iff_not, Bool.not_eq_true', Bool.not_eq_false', Bool.and_eq_true, Bool.not_eq_true, Bool.not_eq_false] at hg6
   refine skip rfl rfl rfl H7 ?_
   clear H7; intro a8 H8
   refine skip rfl rfl rfl H8 ?_
   clear H8; intro a9 H9
   refine plain (y_pick_t rfl rfl rfl) rfl rfl rfl H9 ?_
   clear H9; intro a10 H10
   refine fin ?_
   refine then_n ?_
   refine cnd_t H10 rfl ?_
   refine wp_seq ?_
   refine reg ?_
   refine plain (y_assign rfl rfl) rfl rfl rfl H10 ?_
   clear H10; intro a12 H12
   refine plain (y_assign rfl rfl) rfl rfl rfl H12 ?_
   clear H12; intro a13 H13
   refine fin ?_
   refine then_n ?_
   refine wp_ret ?_
   refine then_r ?_
   -- return 1
   refine ret2 rfl H13 rfl rfl ?_
   exact ⟨_, [], rfl, ⟨rfl, rfl⟩, H13.sep.sub (List.nil_sublist _)⟩
 ·first
  |fail
  |skip
   clear H5; intro H14
   try simp only [decide_eq_true_eq, decide_eq_false_iff_not, Bool.not_eq_true', Bool.not_eq_false', Bool.and_eq_true, Bool.not_eq_true, Bool.not_eq_false] at hg6
   refine plain (y_move rfl rfl) rfl rfl rfl H14 ?_
   clear H14; intro a15 H15
   refine plain (y_gtr rfl rfl rfl) rfl rfl rfl H15 ?_
   clear H15; intro a16 H16
   refine plain (y_pick_f rfl rfl rfl) rfl rfl rfl H16 ?_
   clear H16; intro a17 H17
   refine fin ?_
   refine then_n ?_
   refine cnd H17 rfl (fun hc18 => ?_) (fun hc18 => ?_) -- cond 2
   ·skip
    try simp only [decide_eq_true_eq, decide_eq_false_iff_not, Bool.not_eq_true', Bool.not_eq_false', Bool.and_eq_true, Bool.not_eq_true, Bool.not_eq_false] at hc18
    refine wp_seq ?_
    refine reg ?_
    refine plain (y_assign rfl rfl) rfl rfl rfl H17 ?_
    clear H17; intro a19 H19
    refine plain (y_assign rfl rfl) rfl rfl rfl H19 ?_
    clear H19; intro a20 H20
    refine fin ?_
    refine then_n ?_
    refine wp_ret ?_
    refine then_r ?_
    -- return 2
    refine ret2 rfl H20 rfl rfl ?_
    exact ⟨_, [], rfl, ⟨rfl, rfl⟩, H20.sep.sub (List.nil_sublist _)⟩
   ·(try simp only [decide_eq_true_eq, decide_eq_false_iff_not, Bool.not_eq_true', Bool.not_eq_false', Bool.and_eq_true, Bool.not_eq_true, Bool.not_eq_false] at hc18); (exfalso; omega)
set_option maxRecDepth 100000 in
set_option maxHeartbeats 1000000 in
theorem tnewBad (dp : Int) (h1 : ¬ (0 ≤ dp ∧ dp ≤ 4096)) (w : World) : Calls Tryd.prog 12 #[.int .i64 dp] w (Gives (.tuple #[.pointer none, .int .i64 2]) [] w) := by
 have lz32 : (List.replicate 32 (0 : UInt8)).length = 32 := List.length_replicate
 refine enterL (args := [.int .i64 dp]) Tryd.func12 rfl rfl (l := []) (Sep.refl _) ?_
 intro a0 H0
 refine wp_seq ?_
 refine reg ?_
 refine plain (y_assign rfl rfl) rfl rfl rfl H0 ?_
 clear H0; intro a1 H1
 refine plain (y_assign rfl rfl) rfl rfl rfl H1 ?_
 clear H1; intro a2 H2
 refine fin ?_
 refine then_n ?_
 refine wp_seq ?_
 refine wp_seq ?_
 refine reg ?_
 refine plain (y_move rfl rfl) rfl rfl rfl H2 ?_
 clear H2; intro a3 H3
 refine plain (y_lss rfl rfl rfl) rfl rfl rfl H3 ?_
 clear H3; intro a4 H4
 refine plain (y_move rfl rfl) rfl rfl rfl H4 ?_
 clear H4; intro a5 H5
 refine Sx.part (d := 8) H5 rfl (fun hg6 => ?_) (fun hg6 => ?_)
 ·first
  |fail
  |skip
   clear H5; intro H7
   try simp only [decide_eq_true_eq, decide_eq_false_iff_not, Bool.not_eq_true', Bool.not_eq_false', Bool.and_eq_true, Bool.not_eq_true, Bool.not_eq_false] at hg6
   refine skip rfl rfl rfl H7 ?_
   clear H7; intro a8 H8
   refine skip rfl rfl rfl H8 ?_
   clear H8; intro a9 H9
   refine plain (y_pick_t rfl rfl rfl) rfl rfl rfl H9 ?_
   clear H9; intro a10 H10
   refine fin ?_
   refine then_n ?_
   refine cnd_t H10 rfl ?_
   refine wp_seq ?_
   refine reg ?_
   refine plain (y_assign rfl rfl) rfl rfl rfl H10 ?_
   clear H10; intro a12 H12
   refine plain (y_assign rfl rfl) rfl rfl rfl H12 ?_
   clear H12; intro a13 H13
   refine fin ?_
   refine then_n ?_
   refine wp_ret ?_
   refine then_r ?_
   -- return 1
   refine ret2 rfl H13 rfl rfl ?_
   exact ⟨_, [], rfl, ⟨rfl, rfl⟩, H13.sep.sub (List.nil_sublist _)⟩
 ·first
  |fail
  |skip
   clear H5; intro H14
   try simp only [decide_eq_true_eq, decide_eq_false_iff_not, Bool.not_eq_true', Bool.not_eq_false', Bool.and_eq_true, Bool.not_eq_true, Bool.not_eq_false] at hg6
   refine plain (y_move rfl rfl) rfl rfl rfl H14 ?_
   clear H14; intro a15 H15
   refine plain (y_gtr rfl rfl rfl) rfl rfl rfl H15 ?_
   clear H15; intro a16 H16
   refine plain (y_pick_f rfl rfl rfl) rfl rfl rfl H16 ?_
   clear H16; intro a17 H17
   refine fin ?_
   refine then_n ?_
   refine cnd H17 rfl (fun hc18 => ?_) (fun hc18 => ?_) -- cond 2
   ·skip
    try simp only [decide_eq_true_eq, decide_eq_false_iff_not, Bool.not_eq_true', Bool.not_eq_false', Bool.and_eq_true, Bool.not_eq_true, Bool.not_eq_false] at hc18
    refine wp_seq ?_
    refine reg ?_
    refine plain (y_assign rfl rfl) rfl rfl rfl H17 ?_
    clear H17; intro a19 H19
    refine plain (y_assign rfl rfl) rfl rfl rfl H19 ?_
    clear H19; intro a20 H20
    refine fin ?_
    refine then_n ?_
    refine wp_ret ?_
    refine then_r ?_
    -- return 2
    refine ret2 rfl H20 rfl rfl ?_
    exact ⟨_, [], rfl, ⟨rfl, rfl⟩, H20.sep.sub (List.nil_sublist _)⟩
   ·(try simp only [decide_eq_true_eq, decide_eq_false_iff_not, Bool.not_eq_true', Bool.not_eq_false', Bool.and_eq_true, Bool.not_eq_true, Bool.not_eq_false] at hc18); (exfalso; omega)
set_option maxRecDepth 100000 in
set_option maxHeartbeats 1000000 in
theorem rcheight (X : List Inbox.BA) (hX : Tree.Wfs X) (h0 : 0 < X.length) (hlen : X.length ≤ 4097) (dp de : Int) (rx : Nat) (v : Value) {w : World} (hc_ : (It.blk rx 56 [v, i64 dp, i64 de]).P w) (hv_ : (It.row 26 35 v X.length (Inbox.bc X)).P w)  : Calls Tryd.prog 25 #[.pointer (some ⟨rx, 0, none⟩)] w (Gives (.int .i64 ((X.length : Int) - 1)) [] w) := by
 obtain ⟨A1, c1, rfl, hRx, hmx⟩ := Row.rd hv_
 have lz32 : (List.replicate 32 (0 : UInt8)).length = 32 := List.length_replicate
 refine enterL (args := [.pointer (some ⟨rx, 0, none⟩)]) Tryd.func25 rfl rfl (l := []) (Sep.refl _) ?_
 intro a0 H0
 refine wp_seq ?_
 refine reg ?_
 refine plain (y_assign rfl rfl) rfl rfl rfl H0 ?_
 clear H0; intro a1 H1
 refine fin ?_
 refine then_n ?_
 refine wp_seq ?_
 refine reg ?_
 refine plain (y_move rfl rfl) rfl rfl rfl H1 ?_
 clear H1; intro a2 H2
 refine plain (y_nilCheck rfl rfl) rfl rfl rfl H2 ?_
 clear H2; intro a3 H3
 refine plain (y_fieldB rfl z_field56_0 rfl (by first | (simp only [Nat.zero_add, Nat.add_zero, Nat.reduceAdd]; rfl) | rfl)) rfl rfl rfl H3 ?_
 clear H3; intro a4 H4
 refine plain (y_loadO rfl z_agg36 rfl (blk_cell hc_ (by rfl)) (by simp)) rfl rfl rfl H4 ?_
 clear H4; intro a5 H5
 refine plain (y_len rfl Tryd.underlying36 rfl) rfl rfl rfl H5 ?_
 clear H5; intro a6 H6
 refine plain (y_sub rfl rfl rfl (by first | exact w64 (by omega) (by omega) | rfl)) rfl rfl rfl H6 ?_
 clear H6; intro a7 H7
 refine plain (y_assign rfl rfl) rfl rfl rfl H7 ?_
 clear H7; intro a8 H8
 refine fin ?_
 refine then_n ?_
 refine wp_ret ?_
 -- return 1
 refine ret1 rfl H8 rfl ?_
 exact ⟨_, [], rfl, ⟨rfl, rfl⟩, H8.sep.sub (List.nil_sublist _)⟩
set_option maxRecDepth 100000 in
set_option maxHeartbeats 1000000 in
theorem rcfinal (X : List Inbox.BA) (hX : Tree.Wfs X) (h0 : 0 < X.length) (hlen : X.length ≤ 4097) (dp de : Int) (rx : Nat) (v : Value) (hdp : Note.I64 dp) (hdp0 : 0 ≤ dp) {w : World} (hc_ : (It.blk rx 56 [v, i64 dp, i64 de]).P w) (hv_ : (It.row 26 35 v X.length (Inbox.bc X)).P w)  : Calls Tryd.prog 26 #[.pointer (some ⟨rx, 0, none⟩)] w (Gives (.int .i64 (Tree.Chain.final (⟨Tree.bl X, dp, de⟩ : Tree.Chain))) [] w) := by
 have hdp2 := hdp.2
 have hfi : Tree.Chain.final (⟨Tree.bl X, dp, de⟩ : Tree.Chain) = if (X.length : Int) - 1 < dp then 0 else (X.length : Int) - 1 - dp := by show (if ((Tree.bl X).length : Int) - 1 < dp then 0 else ((Tree.bl X).length : Int) - 1 - dp) = _; rw [Tree.bl_len]
 have lz32 : (List.replicate 32 (0 : UInt8)).length = 32 := List.length_replicate
 refine enterL (args := [.pointer (some ⟨rx, 0, none⟩)]) Tryd.func26 rfl rfl (l := []) (Sep.refl _) ?_
 intro a0 H0
 refine wp_seq ?_
 refine reg ?_
 refine plain (y_assign rfl rfl) rfl rfl rfl H0 ?_
 clear H0; intro a1 H1
 refine fin ?_
 refine then_n ?_
 refine wp_seq ?_
 refine wp_seq ?_
 refine qreg (by kernel_rfl) (by kernel_rfl) H1 ?_
 have F2 := H1.fr
 clear H1
 refine qplain (y_move rfl rfl) rfl rfl rfl F2 ?_
 clear F2; intro a3 H3
 refine qcallg rfl z_call25 rfl rfl rfl rfl H3 (fun w hs => (rcheight X hX h0 hlen dp de rx v (hs.keep hc_) (hs.keep hv_))) ?_
 clear H3; intro a4 H4
 refine qplain (y_move rfl rfl) rfl rfl rfl H4 ?_
 clear H4; intro a5 H5
 refine qplain (y_nilCheck rfl rfl) rfl rfl rfl H5 ?_
 clear H5; intro a6 H6
 refine qplain (y_fieldB rfl z_field56_1 rfl (by first | (simp only [Nat.zero_add, Nat.add_zero, Nat.reduceAdd]; rfl) | rfl)) rfl rfl rfl H6 ?_
 clear H6; intro a7 H7
 refine qplain (y_loadO rfl z_agg3 rfl (blk_cell hc_ (by rfl)) (by simp)) rfl rfl rfl H7 ?_
 clear H7; intro a8 H8
 refine qplain (y_lss rfl rfl rfl) rfl rfl rfl H8 ?_
 clear H8; intro a9 H9
 refine qfin H9 ?_
 clear H9; intro wx10 H10
 refine then_n ?_
 refine cnd H10 rfl (fun hc11 => ?_) (fun hc11 => ?_) -- cond 1
 ·skip
  try simp only [decide_eq_true_eq, decide_eq_false_iff_not, Bool.not_eq_true', Bool.not_eq_false', Bool.and_eq_true, Bool.not_eq_true, Bool.not_eq_false] at hc11
  have hc1 := hc11
  refine wp_seq ?_
  refine reg ?_
  refine plain (y_assign rfl rfl) rfl rfl rfl H10 ?_
  clear H10; intro a12 H12
  refine fin ?_
  refine then_n ?_
  refine wp_ret ?_
  refine then_r ?_
  -- return 1
  refine ret1 rfl H12 rfl ?_
  refine ⟨_, [], rfl, ⟨?_, rfl⟩, H12.sep.sub (List.nil_sublist _)⟩
  rw [hfi]
  first | rw [if_pos hc1] | rw [if_neg hc1]
 ·skip
  try simp only [decide_eq_true_eq, decide_eq_false_iff_not, Bool.not_eq_true', Bool.not_eq_false', Bool.and_eq_true, Bool.not_eq_true, Bool.not_eq_false] at hc11
  have hc1 := hc11
  refine wp_skip ?_
  refine then_n ?_
  refine wp_seq ?_
  refine qreg (by kernel_rfl) (by kernel_rfl) H10 ?_
  have F13 := H10.fr
  clear H10
  refine qplain (y_move rfl rfl) rfl rfl rfl F13 ?_
  clear F13; intro a14 H14
  refine qcallg rfl z_call25 rfl rfl rfl rfl H14 (fun w hs => (rcheight X hX h0 hlen dp de rx v (hs.keep hc_) (hs.keep hv_))) ?_
  clear H14; intro a15 H15
  refine qplain (y_move rfl rfl) rfl rfl rfl H15 ?_
  clear H15; intro a16 H16
  refine qplain (y_nilCheck rfl rfl) rfl rfl rfl H16 ?_
  clear H16; intro a17 H17
  refine qplain (y_fieldB rfl z_field56_1 rfl (by first | (simp only [Nat.zero_add, Nat.add_zero, Nat.reduceAdd]; rfl) | rfl)) rfl rfl rfl H17 ?_
  clear H17; intro a18 H18
  refine qplain (y_loadO rfl z_agg3 rfl (blk_cell hc_ (by rfl)) (by simp)) rfl rfl rfl H18 ?_
  clear H18; intro a19 H19
  refine qplain (y_sub rfl rfl rfl (by first | exact w64 (by omega) (by omega) | rfl)) rfl rfl rfl H19 ?_
  clear H19; intro a20 H20
  refine qplain (y_assign rfl rfl) rfl rfl rfl H20 ?_
  clear H20; intro a21 H21
  refine qfin H21 ?_
  clear H21; intro wx22 H22
  refine then_n ?_
  refine wp_ret ?_
  -- return 2
  refine ret1 rfl H22 rfl ?_
  refine ⟨_, [], rfl, ⟨?_, rfl⟩, H22.sep.sub (List.nil_sublist _)⟩
  rw [hfi]
  first | rw [if_pos hc1] | rw [if_neg hc1]

end Go.Proofs.YtlhddgkbbdfacaaDoor.C_Rc

set_option linter.unusedVariables false
set_option linter.unusedSimpArgs false
namespace Go.Proofs.YtlhddgkbbdfacaaDoor.C_Rg
open Go.Sx Go.RowKit Go.Proofs.YtlhddgkbbdfacaaDoor.C_Block Go.Proofs.YtlhddgkbbdfacaaDoor.C_Sum Go.Proofs.YtlhddgkbbdfacaaDoor.C_Ref Go.Proofs.YtlhddgkbbdfacaaDoor.C_RSum Go.Proofs.YtlhddgkbbdfacaaDoor.C_Num Go.Proofs.YtlhddgkbbdfacaaDoor.C_Lay Go.Proofs.YtlhddgkbbdfacaaDoor.C_Leaf Go.Proofs.YtlhddgkbbdfacaaDoor.C_Item Go.Proofs.YtlhddgkbbdfacaaDoor.C_RefI Go.Proofs.YtlhddgkbbdfacaaDoor.C_Eq Go.Proofs.YtlhddgkbbdfacaaDoor.C_Hash Go.Proofs.YtlhddgkbbdfacaaDoor.C_Nx Go.Proofs.YtlhddgkbbdfacaaDoor.C_Sm

theorem z_zeroN23 : zeroL Tryd.prog 23 = some ((List.replicate 32 (0 : UInt8)).map u8) := by kernel_rfl
theorem z_size26 : sizeB Tryd.prog 26 = some 35 := by kernel_rfl
theorem z_agg26 : aggB Tryd.prog 26 = some true := by kernel_rfl
theorem z_call10 : callB Tryd.prog 10 = true := by kernel_rfl
theorem z_size23 : sizeB Tryd.prog 23 = some 32 := by kernel_rfl
theorem q_one_b32 {t0 : List UInt8} : (t0.map u8).all (·.oneCell') = true := (one_u8 _)
theorem q_len_b32 {t0 : List UInt8} (h0 : t0.length = 32) : (t0.map u8).length = 32 := (len_e (k := 32) h0)
theorem q_spl_b32_0_b32 {t0 : List UInt8} {s0 : List UInt8} (h0 : t0.length = 32) (g0 : s0.length = 32) : spl (t0.map u8) 0 (s0.map u8) = s0.map u8 := (spl_a (z := 32) (len_e (k := 32) h0) (len_e (k := 32) g0))
theorem z_agg23 : aggB Tryd.prog 23 = some true := by kernel_rfl
theorem q_ld_b32_0_32 {t0 : List UInt8} (h0 : t0.length = 32) : ((t0.map u8).drop 0).take 32 = t0.map u8 := (ld_a (len_e (k := 32) h0))
theorem z_zeroN26 : zeroL Tryd.prog 26 = some ((.int .i64 0 :: (.int .i64 0 :: ((List.replicate 32 (0 : UInt8)).map u8 ++ (.slice none 0 0 :: []))))) := by kernel_rfl
theorem z_places26 : placesB Tryd.prog 26 = some [(0, 1), (1, 1), (2, 32), (34, 1)] := by kernel_rfl
theorem q_len_c2b32c1 {a0 a1 a3 : Value} {t2 : List UInt8} (h2 : t2.length = 32) : (a0 :: a1 :: (t2.map u8 ++ (a3 :: []))).length = 35 := (len_c (n := 34) (len_c (n := 33) (len_b (k := 32) (n := 1) h2 (len_c (n := 0) len_n))))
theorem q_spl_c2b32c1_0_c1 {a0 a1 a3 : Value} {t2 : List UInt8} {b0 : Value} : spl (a0 :: a1 :: (t2.map u8 ++ (a3 :: []))) 0 (b0 :: []) = b0 :: a1 :: (t2.map u8 ++ (a3 :: [])) := spl_0
theorem q_spl_c2b32c1_1_c1 {a0 a1 a3 : Value} {t2 : List UInt8} {b0 : Value} : spl (a0 :: a1 :: (t2.map u8 ++ (a3 :: []))) 1 (b0 :: []) = a0 :: b0 :: (t2.map u8 ++ (a3 :: [])) := (spl_c (o := 0) spl_0)
theorem q_spl_c2b32c1_2_b32 {a0 a1 a3 : Value} {t2 : List UInt8} {s0 : List UInt8} (h2 : t2.length = 32) (g0 : s0.length = 32) : spl (a0 :: a1 :: (t2.map u8 ++ (a3 :: []))) 2 (s0.map u8) = a0 :: a1 :: (s0.map u8 ++ (a3 :: [])) := (spl_c (o := 1) (spl_c (o := 0) (spl_h (z := 32) (len_e h2) (len_e g0))))
theorem q_spl_c2b32c1_34_c1 {a0 a1 a3 : Value} {t2 : List UInt8} {b0 : Value} (h2 : t2.length = 32) : spl (a0 :: a1 :: (t2.map u8 ++ (a3 :: []))) 34 (b0 :: []) = a0 :: a1 :: (t2.map u8 ++ (b0 :: [])) := (spl_c (o := 33) (spl_c (o := 32) (spl_b (k := 32) (o := 0) h2 rfl spl_0)))
theorem q_one_c2b32c1 {a0 a1 a3 : Value} {t2 : List UInt8} (o0 : a0.oneCell' = true) (o1 : a1.oneCell' = true) (o3 : a3.oneCell' = true) : (a0 :: a1 :: (t2.map u8 ++ (a3 :: []))).all (·.oneCell') = true := (one_c o0 (one_c o1 (one_b (one_c o3 one_n))))
theorem q_spl_c2b32c1_0_c2b32c1 {a0 a1 a3 : Value} {t2 : List UInt8} {b0 b1 b3 : Value} {s2 : List UInt8} (h2 : t2.length = 32) (g2 : s2.length = 32) : spl (a0 :: a1 :: (t2.map u8 ++ (a3 :: []))) 0 (b0 :: b1 :: (s2.map u8 ++ (b3 :: []))) = b0 :: b1 :: (s2.map u8 ++ (b3 :: [])) := (spl_a (z := 35) (len_c (n := 34) (len_c (n := 33) (len_b (k := 32) (n := 1) h2 (len_c (n := 0) len_n)))) (len_c (n := 34) (len_c (n := 33) (len_b (k := 32) (n := 1) g2 (len_c (n := 0) len_n)))))
theorem q_ld_c2b32c1_0_35 {a0 a1 a3 : Value} {t2 : List UInt8} (h2 : t2.length = 32) : ((a0 :: a1 :: (t2.map u8 ++ (a3 :: []))).drop 0).take 35 = a0 :: a1 :: (t2.map u8 ++ (a3 :: [])) := (ld_a (len_c (n := 34) (len_c (n := 33) (len_b (k := 32) (n := 1) h2 (len_c (n := 0) len_n)))))
theorem z_size5 : sizeB Tryd.prog 5 = some 1 := by kernel_rfl
theorem z_zero26 : zeroL Tryd.prog 26 = some ([.int .i64 0, .int .i64 0, .int .u8 0, .int .u8 0, .int .u8 0, .int .u8 0, .int .u8 0, .int .u8 0, .int .u8 0, .int .u8 0, .int .u8 0, .int .u8 0, .int .u8 0, .int .u8 0, .int .u8 0, .int .u8 0, .int .u8 0, .int .u8 0, .int .u8 0, .int .u8 0, .int .u8 0, .int .u8 0, .int .u8 0, .int .u8 0, .int .u8 0, .int .u8 0, .int .u8 0, .int .u8 0, .int .u8 0, .int .u8 0, .int .u8 0, .int .u8 0, .int .u8 0, .int .u8 0, .slice none 0 0]) := by kernel_rfl
theorem z_slice36 : sliceB Tryd.prog 36 = some (26, 35, 72) := by kernel_rfl
theorem z_notint36 : notIntB Tryd.prog 36 = true := by kernel_rfl

set_option maxRecDepth 100000 in
set_option maxHeartbeats 4000000 in
theorem rgrow (X : List Inbox.BA) (hX : Tree.Wfs X) (h0 : 0 < X.length) (hlen : X.length ≤ 100000) (A1 : Option Addr) (c1 : Nat) (q : Tree.IA) (hq : Tree.IA.Wf q) (salt : Int) (hsa : Note.I64 salt) {w : World} (hRx : Rd w A1 (Inbox.bc X)) (hI : ∀ y ∈ X, Rd w y.A (Inbox.ic y.b.items)) (hRq : Rd w q.A (Inbox.ic q.l)) : Calls Tryd.prog 59 #[.slice A1 X.length c1, .slice q.A q.l.length q.c, .int .i64 salt] w (Post [] w fun r l' => ∃ u, r = .tuple #[u, .agg ((Tree.grow (Tree.bl X) q.l salt).2.1.map u8).toArray, .int .i64 (Tree.grow (Tree.bl X) q.l salt).2.2] ∧ l' = [It.row 26 35 u (Tree.growX X q salt).length (Inbox.bc (Tree.growX X q salt))]) := by
 have hZl : Note.Z.length = 32 := Note.Z_len
 have hbl := Tree.bl_len X
 have hl1 : X.length - 1 < X.length := by omega
 have hwl := hX.at_ hl1
 have hpl := hwl.parent
 have hlb := hwl.bytes
 have hla : (X.getD (X.length - 1) Inbox.BA.zero).b = Tree.last (Tree.bl X) := by unfold Tree.last; rw [hbl, Tree.bl_at hl1]
 have lz32 : (List.replicate 32 (0 : UInt8)).length = 32 := List.length_replicate
 refine enterL (args := [.slice A1 X.length c1, .slice q.A q.l.length q.c, .int .i64 salt]) Tryd.func59 rfl rfl (l := []) (Sep.refl _) ?_
 intro a0 H0
 refine wp_seq ?_
 refine reg ?_
 refine plain (y_assign rfl rfl) rfl rfl rfl H0 ?_
 clear H0; intro a1 H1
 refine st_alloc rfl z_zeroN23 rfl rfl rfl H1 ?_
 clear H1; intro b2 a2 wx2 H2
 refine plain (y_assign rfl rfl) rfl rfl rfl H2 ?_
 clear H2; intro a3 H3
 refine fin ?_
 refine then_n ?_
 refine wp_seq ?_
 refine reg ?_
 refine plain (y_move rfl rfl) rfl rfl rfl H3 ?_
 clear H3; intro a4 H4
 refine plain (y_move rfl rfl) rfl rfl rfl H4 ?_
 clear H4; intro a5 H5
 refine plain (y_len rfl Tryd.underlying36 rfl) rfl rfl rfl H5 ?_
 clear H5; intro a6 H6
 refine plain (y_sub rfl rfl rfl (by first | exact w64 (by omega) (by omega) | rfl)) rfl rfl rfl H6 ?_
 clear H6; intro a7 H7
 refine plain (y_ixR rfl Tryd.underlying36 z_size26 rfl rfl (by omega) (by omega) (rd_old hRx (by simp)) (by rw [Tree.bc_len hX]; omega)) rfl rfl rfl H7 ?_
 clear H7; intro a8 H8
 refine plain (y_loadAS rfl z_agg26 z_size26 rfl (rd_old hRx (by simp)) (show _ = Inbox.BA.cells (X.getD (X.length - 1) Inbox.BA.zero) from by rw [show ((X.length : Int) - 1).toNat = X.length - 1 by omega]; exact Tree.bc_take hX _ hl1) hwl.len (by decide)) rfl rfl rfl H8 ?_
 clear H8; intro a9 H9
 refine st_callg rfl z_call10 rfl rfl rfl rfl H9 (rthash (X.getD (X.length - 1) Inbox.BA.zero) hwl (by omega) (Rd.frm (hI _ (Inbox.memD _ hl1)) H9.sep.frm (by simp))) ?_
 clear H9; intro a10 wx10 H10
 refine plain (y_move rfl rfl) rfl rfl rfl H10 ?_
 clear H10; intro a11 H11
 refine plain (y_extract rfl rfl rfl) rfl rfl rfl H11 ?_
 clear H11; intro a12 H12
 refine plain (y_extract rfl rfl rfl) rfl rfl rfl H12 ?_
 clear H12; intro a13 H13
 refine st_alloc rfl z_zeroN23 rfl rfl rfl H13 ?_
 clear H13; intro b14 a14 wx14 H14
 refine st_storeN rfl z_size23 rfl rfl (agg_cells _) UU q_one_b32 (q_len_b32 (by first | assumption | exact Tree.hash_len _)) (q_len_b32 (by first | assumption | exact Tree.hash_len _)) (q_spl_b32_0_b32 (by first | assumption | exact Tree.hash_len _) (by first | assumption | exact Tree.hash_len _)) (by decide) rfl rfl H14 ?_
 clear H14; intro wx15 H15
 refine plain (y_assign rfl rfl) rfl rfl rfl H15 ?_
 clear H15; intro a16 H16
 refine fin ?_
 refine then_n ?_
 refine wp_seq ?_
 rw [hla] at H16
 have hwB : Tree.W0 (Tree.ofIA (Tree.bl X) q salt) := ⟨by show Note.I64 ((Tree.bl X).length : Int); rw [hbl]; constructor <;> omega, hsa, Tree.hash_len _, hq.items, hq.bytes⟩
 have hpB := hwB.parent
 refine reg ?_
 refine plain (y_move rfl rfl) rfl rfl rfl H16 ?_
 clear H16; intro a17 H17
 refine plain (y_len rfl Tryd.underlying36 rfl) rfl rfl rfl H17 ?_
 clear H17; intro a18 H18
 refine plain (y_move rfl rfl) rfl rfl rfl H18 ?_
 clear H18; intro a19 H19
 refine plain (y_loadAB rfl z_agg23 z_size23 rfl MM (q_ld_b32_0_32 (by first | assumption | exact Tree.hash_len _)) (q_len_b32 (by first | assumption | exact Tree.hash_len _))) rfl rfl rfl H19 ?_
 clear H19; intro a20 H20
 refine plain (y_move rfl rfl) rfl rfl rfl H20 ?_
 clear H20; intro a21 H21
 replace H21 := H21.know (d := 25) rfl (congrArg (Value.int .i64) (show (X.length : Int) = ((Tree.bl X).length : Int) by rw [hbl]))
 refine plain (y_build rfl z_zeroN26 z_places26 rfl (lay_1 (off := 0) (n := 35) rfl (q_len_c2b32c1 (by first | assumption | exact Tree.hash_len _)) (by decide) q_spl_c2b32c1_0_c1 (lay_1 (off := 1) (n := 35) rfl (q_len_c2b32c1 (by first | assumption | exact Tree.hash_len _)) (by decide) q_spl_c2b32c1_1_c1 (lay_f (off := 2) (z := 32) (n := 35) rfl (agg_cells _) (q_len_b32 (by first | assumption | exact Tree.hash_len _)) (q_len_c2b32c1 (by first | assumption | exact Tree.hash_len _)) (by decide) (q_spl_c2b32c1_2_b32 (by first | assumption | exact Tree.hash_len _) (by first | assumption | exact Tree.hash_len _)) (lay_1 (off := 34) (n := 35) rfl (q_len_c2b32c1 (by first | assumption | exact Tree.hash_len _)) (by decide) (q_spl_c2b32c1_34_c1 (by first | assumption | exact Tree.hash_len _)) lay_n (by rfl))) (by rfl)) (by rfl))) rfl rfl rfl H21 ?_
 clear H21; intro a22 H22
 refine st_alloc rfl z_zeroN26 rfl rfl rfl H22 ?_
 clear H22; intro b23 a23 wx23 H23
 refine st_storeN rfl z_size26 rfl rfl (agg_cells _) UU (q_one_c2b32c1 rfl rfl rfl) (q_len_c2b32c1 (by first | assumption | exact Tree.hash_len _)) (q_len_c2b32c1 (by first | assumption | exact Tree.hash_len _)) (q_spl_c2b32c1_0_c2b32c1 (by first | assumption | exact Tree.hash_len _) (by first | assumption | exact Tree.hash_len _)) (by decide) rfl rfl H23 ?_
 clear H23; intro wx24 H24
 refine fin ?_
 refine then_n ?_
 refine wp_seq ?_
 refine reg ?_
 refine plain (y_loadAB rfl z_agg26 z_size26 rfl MM (q_ld_c2b32c1_0_35 (by first | assumption | exact Tree.hash_len _)) (q_len_c2b32c1 (by first | assumption | exact Tree.hash_len _))) rfl rfl rfl H24 ?_
 clear H24; intro a25 H25
 refine st_callg rfl z_call10 rfl rfl rfl rfl H25 (rthash (Tree.ofIA (Tree.bl X) q salt) hwB (show q.l.length ≤ _ by have := hq.bytes; omega) (Rd.frm hRq H25.sep.frm (by simp))) ?_
 clear H25; intro a26 wx26 H26
 refine plain (y_move rfl rfl) rfl rfl rfl H26 ?_
 clear H26; intro a27 H27
 refine plain (y_extract rfl rfl rfl) rfl rfl rfl H27 ?_
 clear H27; intro a28 H28
 refine plain (y_extract rfl rfl rfl) rfl rfl rfl H28 ?_
 clear H28; intro a29 H29
 refine st_alloc rfl z_zeroN23 rfl rfl rfl H29 ?_
 clear H29; intro b30 a30 wx30 H30
 refine st_storeN rfl z_size23 rfl rfl (agg_cells _) UU q_one_b32 (q_len_b32 (by first | assumption | exact Tree.hash_len _)) (q_len_b32 (by first | assumption | exact Tree.hash_len _)) (q_spl_b32_0_b32 (by first | assumption | exact Tree.hash_len _) (by first | assumption | exact Tree.hash_len _)) (by decide) rfl rfl H30 ?_
 clear H30; intro wx31 H31
 refine plain (y_assign rfl rfl) rfl rfl rfl H31 ?_
 clear H31; intro a32 H32
 refine fin ?_
 refine then_n ?_
 refine wp_seq ?_
 refine wp_seq ?_
 refine reg ?_
 refine plain (y_move rfl rfl) rfl rfl rfl H32 ?_
 clear H32; intro a33 H33
 refine plain (y_neq rfl rfl rfl) rfl rfl rfl H33 ?_
 clear H33; intro a34 H34
 refine fin ?_
 refine then_n ?_
 refine cnd H34 rfl (fun hc35 => ?_) (fun hc35 => ?_) -- cond 1
 ·skip
  try simp only [decide_eq_true_eq, decide_eq_false_iff_not, Bool.not_eq_true', Bool.not_eq_false', Bool.and_eq_true, Bool.not_eq_true, Bool.not_eq_false] at hc35
  have hw1 := hc35
  refine wp_seq ?_
  refine reg ?_
  refine plain (y_buildA rfl z_zeroN23 Tryd.underlying23 z_size5 rfl lay_n) rfl rfl rfl H34 ?_
  clear H34; intro a36 H36
  refine plain (y_move rfl rfl) rfl rfl rfl H36 ?_
  clear H36; intro a37 H37
  refine plain (y_assign rfl rfl) rfl rfl rfl H37 ?_
  clear H37; intro a38 H38
  refine st_storeN rfl z_size23 rfl rfl (agg_cells _) UU q_one_b32 (q_len_b32 (by first | assumption | exact Tree.hash_len _)) (q_len_b32 (by first | assumption | exact Tree.hash_len _)) (q_spl_b32_0_b32 (by first | assumption | exact Tree.hash_len _) (by first | assumption | exact Tree.hash_len _)) (by decide) rfl rfl H38 ?_
  clear H38; intro wx39 H39
  refine plain (y_assign rfl rfl) rfl rfl rfl H39 ?_
  clear H39; intro a40 H40
  refine fin ?_
  refine then_n ?_
  refine wp_ret ?_
  refine then_r ?_
  -- return 1
  refine rettct rfl H40 rfl rfl z_agg23 z_size23 MM (q_len_b32 (by first | assumption | exact Tree.hash_len _)) rfl ?_
  first | (have hz9 := hw1; rw [Tree.growX_bad hw1, Tree.grow_bad hw1]; refine ⟨_, _, rfl, ⟨_, rfl, rfl⟩, ?_⟩; have hnn := H40.nilRow 26 35; exact (hnn.only (is := [It.row 26 35 (.slice none 0 0) 0 []]) (.cons PP (.nil _))).sep) | (rw [Tree.growX_ok hw2, Tree.grow_ok hw2]; refine ⟨_, _, rfl, ⟨_, rfl, rfl⟩, ?_⟩; rw [Tree.bc_append, Tree.bc_one, List.length_append]; exact (H40.only (is := [It.row 26 35 (.slice ArV (X.length + 1) crV) (X.length + 1) (Inbox.bc X ++ Inbox.BA.cells (Tree.ofIA (Tree.bl X) q salt))]) (.cons PP (.nil _))).sep)
 ·skip
  try simp only [decide_eq_true_eq, decide_eq_false_iff_not, Bool.not_eq_true', Bool.not_eq_false', Bool.and_eq_true, Bool.not_eq_true, Bool.not_eq_false] at hc35
  have hw2 := Decidable.not_not.1 hc35
  refine wp_skip ?_
  refine then_n ?_
  refine wp_seq ?_
  refine hreg [It.blk b30 23 ((Tree.hash (Tree.behind (Tree.bl X) q.l salt)).1.map u8), It.blk b23 26 (Inbox.BA.cells (Tree.ofIA (Tree.bl X) q salt))] (fun _ h => h.subA) (by kernel_rfl) H34 ?_
  clear H34; intro wx41 H41
  refine htake 1 rfl (by kernel_rfl) (y_move rfl rfl) rfl rfl rfl (fun _ h => h.subA) H41 ?_
  clear H41; intro a42 H42
  refine htake 3 rfl (by kernel_rfl) (y_loadAB rfl z_agg26 z_size26 rfl MM (q_ld_c2b32c1_0_35 (by first | assumption | exact Tree.hash_len _)) (q_len_c2b32c1 (by first | assumption | exact Tree.hash_len _))) rfl rfl rfl (fun _ h => h.subA) H42 ?_
  clear H42; intro a43 H43
  refine htake 6 rfl (by kernel_rfl) (y_loadAB rfl z_agg23 z_size23 rfl MM (q_ld_b32_0_32 (by first | assumption | exact Tree.hash_len _)) (q_len_b32 (by first | assumption | exact Tree.hash_len _))) rfl rfl rfl (fun _ h => h.subA) H43 ?_
  clear H43; intro a44 H44
  refine hgo2 0 4 rfl rfl (by kernel_rfl) ?_ ?_
  ·skip
   refine st_buildSlice rfl Tryd.underlying36 z_size26 z_zero26 rfl rfl rfl (show _ = some ([] : List Value) from rfl) rfl rfl rfl H44 ?_
   clear H44; intro b45 a45 wx45 H45
   refine hfinA H45.sep ?_
   refine hgo2 2 4 rfl rfl (by kernel_rfl) ?_ ?_
   ·skip
    replace H45 := H45.asRow (b := b45) (size := 35) (m := 0) UU rfl (by unfold maxLen; omega)
    refine st_append rfl z_slice36 z_notint36 rfl rfl (fun _ => UU) (fun w hs => Src.slice ((rd_old hRx (by simp)) w hs) (Tree.bc_len hX) (Inbox.bc_cell _)) (by unfold maxLen at *; omega) (by omega) rfl rfl rfl H45 ?_
    clear H45; intro v46 a46 wx46 hnil46 H46
    obtain ⟨ArP, crP, hvrP, hRrP, hmrP⟩ := row_shape (v := v46) H46.sep MM
    subst hvrP
    simp only [List.nil_append, Nat.zero_add] at H46
    refine hfinA H46.sep ?_
    refine hgo 4 rfl (by kernel_rfl) ?_
    refine st_buildSlice rfl Tryd.underlying36 z_size26 z_zero26 rfl rfl rfl (lay_agg (agg_cells _) (Inbox.BA.cells_len (x := (Tree.ofIA (Tree.bl X) q salt)) (Tree.hash_len _)) rfl) rfl rfl rfl H46 ?_
    clear H46; intro b47 a47 wx47 H47
    refine hfinA H47.sep ?_
    refine hgo 5 rfl (by kernel_rfl) ?_
    refine st_append rfl z_slice36 z_notint36 rfl rfl (fun _ => UU) (fun w hs => Src.slice ((rd_blkA MM) w hs) (Inbox.BA.cells_len (x := (Tree.ofIA (Tree.bl X) q salt)) (Tree.hash_len _)) (Tree.ba_cell (Tree.ofIA (Tree.bl X) q salt))) (by unfold maxLen at *; omega) (by omega) rfl rfl rfl H47 ?_
    clear H47; intro v48 a48 wx48 hnil48 H48
    obtain ⟨ArV, crV, hvrV, hRrV, hmrV⟩ := row_shape (v := v48) H48.sep MM
    subst hvrV
    refine hfinA H48.sep ?_
    refine htake 7 rfl (by kernel_rfl) (y_assign rfl rfl) rfl rfl rfl (fun _ h => h.subA) H48 ?_
    clear H48; intro a49 H49
    refine hgo 8 rfl (by kernel_rfl) ?_
    refine st_storeN rfl z_size23 rfl rfl (agg_cells _) UU q_one_b32 (q_len_b32 (by first | assumption | exact Tree.hash_len _)) (q_len_b32 (by first | assumption | exact Tree.hash_len _)) (q_spl_b32_0_b32 (by first | assumption | exact Tree.hash_len _) (by first | assumption | exact Tree.hash_len _)) (by decide) rfl rfl H49 ?_
    clear H49; intro wx50 H50
    refine hfinA H50.sep ?_
    refine htake 9 rfl (by kernel_rfl) (y_assign rfl rfl) rfl rfl rfl (fun _ h => h.subA) H50 ?_
    clear H50; intro a51 H51
    refine hdone (by kernel_rfl) ?_
    refine then_n ?_
    refine wp_ret ?_
    -- return 2
    refine rettct rfl H51 rfl rfl z_agg23 z_size23 MM (q_len_b32 (by first | assumption | exact Tree.hash_len _)) rfl ?_
    first | (have hz9 := hw1; rw [Tree.growX_bad hw1, Tree.grow_bad hw1]; refine ⟨_, _, rfl, ⟨_, rfl, rfl⟩, ?_⟩; have hnn := H51.nilRow 26 35; exact (hnn.only (is := [It.row 26 35 (.slice none 0 0) 0 []]) (.cons PP (.nil _))).sep) | (rw [Tree.growX_ok hw2, Tree.grow_ok hw2]; refine ⟨_, _, rfl, ⟨_, rfl, rfl⟩, ?_⟩; rw [Tree.bc_append, Tree.bc_one, List.length_append]; exact (H51.only (is := [It.row 26 35 (.slice ArV (X.length + 1) crV) (X.length + 1) (Inbox.bc X ++ Inbox.BA.cells (Tree.ofIA (Tree.bl X) q salt))]) (.cons PP (.nil _))).sep)
   ·skip
    refine st_buildSlice rfl Tryd.underlying36 z_size26 z_zero26 rfl rfl rfl (lay_agg (agg_cells _) (Inbox.BA.cells_len (x := (Tree.ofIA (Tree.bl X) q salt)) (Tree.hash_len _)) rfl) rfl rfl rfl H45 ?_
    clear H45; intro b52 a52 wx52 H52
    refine hfinA H52.sep ?_
    refine hgo 2 rfl (by kernel_rfl) ?_
    replace H52 := H52.asRow (b := b45) (size := 35) (m := 0) UU rfl (by unfold maxLen; omega)
    refine st_append rfl z_slice36 z_notint36 rfl rfl (fun _ => UU) (fun w hs => Src.slice ((rd_old hRx (by simp)) w hs) (Tree.bc_len hX) (Inbox.bc_cell _)) (by unfold maxLen at *; omega) (by omega) rfl rfl rfl H52 ?_
    clear H52; intro v53 a53 wx53 hnil53 H53
    obtain ⟨ArP, crP, hvrP, hRrP, hmrP⟩ := row_shape (v := v53) H53.sep MM
    subst hvrP
    simp only [List.nil_append, Nat.zero_add] at H53
    refine hfinA H53.sep ?_
    refine hgo 5 rfl (by kernel_rfl) ?_
    refine st_append rfl z_slice36 z_notint36 rfl rfl (fun _ => UU) (fun w hs => Src.slice ((rd_blkA MM) w hs) (Inbox.BA.cells_len (x := (Tree.ofIA (Tree.bl X) q salt)) (Tree.hash_len _)) (Tree.ba_cell (Tree.ofIA (Tree.bl X) q salt))) (by unfold maxLen at *; omega) (by omega) rfl rfl rfl H53 ?_
    clear H53; intro v54 a54 wx54 hnil54 H54
    obtain ⟨ArV, crV, hvrV, hRrV, hmrV⟩ := row_shape (v := v54) H54.sep MM
    subst hvrV
    refine hfinA H54.sep ?_
    refine htake 7 rfl (by kernel_rfl) (y_assign rfl rfl) rfl rfl rfl (fun _ h => h.subA) H54 ?_
    clear H54; intro a55 H55
    refine hgo 8 rfl (by kernel_rfl) ?_
    refine st_storeN rfl z_size23 rfl rfl (agg_cells _) UU q_one_b32 (q_len_b32 (by first | assumption | exact Tree.hash_len _)) (q_len_b32 (by first | assumption | exact Tree.hash_len _)) (q_spl_b32_0_b32 (by first | assumption | exact Tree.hash_len _) (by first | assumption | exact Tree.hash_len _)) (by decide) rfl rfl H55 ?_
    clear H55; intro wx56 H56
    refine hfinA H56.sep ?_
    refine htake 9 rfl (by kernel_rfl) (y_assign rfl rfl) rfl rfl rfl (fun _ h => h.subA) H56 ?_
    clear H56; intro a57 H57
    refine hdone (by kernel_rfl) ?_
    refine then_n ?_
    refine wp_ret ?_
    -- return 3
    refine rettct rfl H57 rfl rfl z_agg23 z_size23 MM (q_len_b32 (by first | assumption | exact Tree.hash_len _)) rfl ?_
    first | (have hz9 := hw1; rw [Tree.growX_bad hw1, Tree.grow_bad hw1]; refine ⟨_, _, rfl, ⟨_, rfl, rfl⟩, ?_⟩; have hnn := H57.nilRow 26 35; exact (hnn.only (is := [It.row 26 35 (.slice none 0 0) 0 []]) (.cons PP (.nil _))).sep) | (rw [Tree.growX_ok hw2, Tree.grow_ok hw2]; refine ⟨_, _, rfl, ⟨_, rfl, rfl⟩, ?_⟩; rw [Tree.bc_append, Tree.bc_one, List.length_append]; exact (H57.only (is := [It.row 26 35 (.slice ArV (X.length + 1) crV) (X.length + 1) (Inbox.bc X ++ Inbox.BA.cells (Tree.ofIA (Tree.bl X) q salt))]) (.cons PP (.nil _))).sep)
  ·skip
   refine st_buildSlice rfl Tryd.underlying36 z_size26 z_zero26 rfl rfl rfl (lay_agg (agg_cells _) (Inbox.BA.cells_len (x := (Tree.ofIA (Tree.bl X) q salt)) (Tree.hash_len _)) rfl) rfl rfl rfl H44 ?_
   clear H44; intro b58 a58 wx58 H58
   refine hfinA H58.sep ?_
   refine hgo 0 rfl (by kernel_rfl) ?_
   refine st_buildSlice rfl Tryd.underlying36 z_size26 z_zero26 rfl rfl rfl (show _ = some ([] : List Value) from rfl) rfl rfl rfl H58 ?_
   clear H58; intro b59 a59 wx59 H59
   refine hfinA H59.sep ?_
   refine hgo 2 rfl (by kernel_rfl) ?_
   replace H59 := H59.asRow (b := b59) (size := 35) (m := 0) UU rfl (by unfold maxLen; omega)
   refine st_append rfl z_slice36 z_notint36 rfl rfl (fun _ => UU) (fun w hs => Src.slice ((rd_old hRx (by simp)) w hs) (Tree.bc_len hX) (Inbox.bc_cell _)) (by unfold maxLen at *; omega) (by omega) rfl rfl rfl H59 ?_
   clear H59; intro v60 a60 wx60 hnil60 H60
   obtain ⟨ArP, crP, hvrP, hRrP, hmrP⟩ := row_shape (v := v60) H60.sep MM
   subst hvrP
   simp only [List.nil_append, Nat.zero_add] at H60
   refine hfinA H60.sep ?_
   refine hgo 5 rfl (by kernel_rfl) ?_
   refine st_append rfl z_slice36 z_notint36 rfl rfl (fun _ => UU) (fun w hs => Src.slice ((rd_blkA MM) w hs) (Inbox.BA.cells_len (x := (Tree.ofIA (Tree.bl X) q salt)) (Tree.hash_len _)) (Tree.ba_cell (Tree.ofIA (Tree.bl X) q salt))) (by unfold maxLen at *; omega) (by omega) rfl rfl rfl H60 ?_
   clear H60; intro v61 a61 wx61 hnil61 H61
   obtain ⟨ArV, crV, hvrV, hRrV, hmrV⟩ := row_shape (v := v61) H61.sep MM
   subst hvrV
   refine hfinA H61.sep ?_
   refine htake 7 rfl (by kernel_rfl) (y_assign rfl rfl) rfl rfl rfl (fun _ h => h.subA) H61 ?_
   clear H61; intro a62 H62
   refine hgo 8 rfl (by kernel_rfl) ?_
   refine st_storeN rfl z_size23 rfl rfl (agg_cells _) UU q_one_b32 (q_len_b32 (by first | assumption | exact Tree.hash_len _)) (q_len_b32 (by first | assumption | exact Tree.hash_len _)) (q_spl_b32_0_b32 (by first | assumption | exact Tree.hash_len _) (by first | assumption | exact Tree.hash_len _)) (by decide) rfl rfl H62 ?_
   clear H62; intro wx63 H63
   refine hfinA H63.sep ?_
   refine htake 9 rfl (by kernel_rfl) (y_assign rfl rfl) rfl rfl rfl (fun _ h => h.subA) H63 ?_
   clear H63; intro a64 H64
   refine hdone (by kernel_rfl) ?_
   refine then_n ?_
   refine wp_ret ?_
   -- return 4
   refine rettct rfl H64 rfl rfl z_agg23 z_size23 MM (q_len_b32 (by first | assumption | exact Tree.hash_len _)) rfl ?_
   first | (have hz9 := hw1; rw [Tree.growX_bad hw1, Tree.grow_bad hw1]; refine ⟨_, _, rfl, ⟨_, rfl, rfl⟩, ?_⟩; have hnn := H64.nilRow 26 35; exact (hnn.only (is := [It.row 26 35 (.slice none 0 0) 0 []]) (.cons PP (.nil _))).sep) | (rw [Tree.growX_ok hw2, Tree.grow_ok hw2]; refine ⟨_, _, rfl, ⟨_, rfl, rfl⟩, ?_⟩; rw [Tree.bc_append, Tree.bc_one, List.length_append]; exact (H64.only (is := [It.row 26 35 (.slice ArV (X.length + 1) crV) (X.length + 1) (Inbox.bc X ++ Inbox.BA.cells (Tree.ofIA (Tree.bl X) q salt))]) (.cons PP (.nil _))).sep)

end Go.Proofs.YtlhddgkbbdfacaaDoor.C_Rg

set_option linter.unusedVariables false
set_option linter.unusedSimpArgs false
namespace Go.Proofs.YtlhddgkbbdfacaaDoor.C_Rm
open Go.Sx Go.RowKit Go.Proofs.YtlhddgkbbdfacaaDoor.C_Block Go.Proofs.YtlhddgkbbdfacaaDoor.C_Sum Go.Proofs.YtlhddgkbbdfacaaDoor.C_Ref Go.Proofs.YtlhddgkbbdfacaaDoor.C_RSum Go.Proofs.YtlhddgkbbdfacaaDoor.C_Num Go.Proofs.YtlhddgkbbdfacaaDoor.C_Lay Go.Proofs.YtlhddgkbbdfacaaDoor.C_Leaf Go.Proofs.YtlhddgkbbdfacaaDoor.C_Item Go.Proofs.YtlhddgkbbdfacaaDoor.C_RefI Go.Proofs.YtlhddgkbbdfacaaDoor.C_Eq Go.Proofs.YtlhddgkbbdfacaaDoor.C_Hash Go.Proofs.YtlhddgkbbdfacaaDoor.C_Nx Go.Proofs.YtlhddgkbbdfacaaDoor.C_Sm Go.Proofs.YtlhddgkbbdfacaaDoor.C_Rc Go.Proofs.YtlhddgkbbdfacaaDoor.C_Rg

theorem z_zeroN23 : zeroL Tryd.prog 23 = some ((List.replicate 32 (0 : UInt8)).map u8) := by kernel_rfl
theorem z_call25 : callB Tryd.prog 25 = true := by kernel_rfl
theorem z_size5 : sizeB Tryd.prog 5 = some 1 := by kernel_rfl
theorem z_size23 : sizeB Tryd.prog 23 = some 32 := by kernel_rfl
theorem q_one_b32 {t0 : List UInt8} : (t0.map u8).all (·.oneCell') = true := (one_u8 _)
theorem q_len_b32 {t0 : List UInt8} (h0 : t0.length = 32) : (t0.map u8).length = 32 := (len_e (k := 32) h0)
theorem q_spl_b32_0_b32 {t0 : List UInt8} {s0 : List UInt8} (h0 : t0.length = 32) (g0 : s0.length = 32) : spl (t0.map u8) 0 (s0.map u8) = s0.map u8 := (spl_a (z := 32) (len_e (k := 32) h0) (len_e (k := 32) g0))
theorem z_agg23 : aggB Tryd.prog 23 = some true := by kernel_rfl
theorem z_field56_0 : fieldB Tryd.prog 56 0 = some 0 := by kernel_rfl
theorem z_agg36 : aggB Tryd.prog 36 = some false := by kernel_rfl
theorem q_ix_c3_0 {a0 a1 a2 : Value} : (a0 :: a1 :: a2 :: [])[0]? = some a0 := ix_0
theorem z_call59 : callB Tryd.prog 59 = true := by kernel_rfl
theorem z_size36 : sizeB Tryd.prog 36 = some 1 := by kernel_rfl
theorem q_len_c3 {a0 a1 a2 : Value} : (a0 :: a1 :: a2 :: []).length = 3 := (len_c (n := 2) (len_c (n := 1) (len_c (n := 0) len_n)))
theorem q_set_c3_0 {a0 a1 a2 : Value} {v : Value} : (a0 :: a1 :: a2 :: []).set 0 v = v :: a1 :: a2 :: [] := set_0
theorem q_ld_b32_0_32 {t0 : List UInt8} (h0 : t0.length = 32) : ((t0.map u8).drop 0).take 32 = t0.map u8 := (ld_a (len_e (k := 32) h0))

set_option maxRecDepth 100000 in
set_option maxHeartbeats 4000000 in
theorem rmine (X : List Inbox.BA) (hX : Tree.Wfs X) (h0 : 0 < X.length) (hlen : X.length ≤ 4097) (dp de : Int) (rx : Nat) (v : Value) (q : Tree.IA) (hq : Tree.IA.Wf q) (salt : Int) (hsa : Note.I64 salt) {w : World} (hs : Sep (fps [It.row 26 35 v X.length (Inbox.bc X), It.blk rx 56 [v, i64 dp, i64 de]]) w w [It.row 26 35 v X.length (Inbox.bc X), It.blk rx 56 [v, i64 dp, i64 de]]) (hI : ∀ y ∈ X, Tree.Keeps [It.row 26 35 v X.length (Inbox.bc X), It.blk rx 56 [v, i64 dp, i64 de]] w y.A (Inbox.ic y.b.items)) (hRq : Tree.Keeps [It.row 26 35 v X.length (Inbox.bc X), It.blk rx 56 [v, i64 dp, i64 de]] w q.A (Inbox.ic q.l)) : Calls Tryd.prog 42 #[.pointer (some ⟨rx, 0, none⟩), .slice q.A q.l.length q.c, .int .i64 salt] w (Post (fps [It.row 26 35 v X.length (Inbox.bc X), It.blk rx 56 [v, i64 dp, i64 de]]) w fun r l' => ∃ v', r = .tuple #[.agg ((Tree.mine (⟨Tree.bl X, dp, de⟩ : Tree.Chain) q.l salt).2.1.map u8).toArray, .int .i64 (Tree.mine (⟨Tree.bl X, dp, de⟩ : Tree.Chain) q.l salt).2.2] ∧ l' = [It.row 26 35 v' (Tree.mineX X q salt).length (Inbox.bc (Tree.mineX X q salt)), It.blk rx 56 [v', i64 dp, i64 de]]) := by
 obtain ⟨A1, c1, rfl, hR1, hm1⟩ := row_shape (v := v) hs MM
 have hZl : Note.Z.length = 32 := Note.Z_len
 have hbl := Tree.bl_len X
 have hhe : Tree.Chain.height (⟨Tree.bl X, dp, de⟩ : Tree.Chain) = (X.length : Int) - 1 := by show ((Tree.bl X).length : Int) - 1 = _; rw [hbl]
 have hgl := Tree.grow_h32 (Tree.bl X) q.l salt
 have lz32 : (List.replicate 32 (0 : UInt8)).length = 32 := List.length_replicate
 refine enterL (args := [.pointer (some ⟨rx, 0, none⟩), .slice q.A q.l.length q.c, .int .i64 salt]) Tryd.func42 rfl rfl (l := [It.row 26 35 (.slice A1 X.length c1) X.length (Inbox.bc X), It.blk rx 56 [(.slice A1 X.length c1), i64 dp, i64 de]]) hs ?_
 intro a0 H0
 refine wp_seq ?_
 refine reg ?_
 refine st_alloc rfl z_zeroN23 rfl rfl rfl H0 ?_
 clear H0; intro b1 a1 wx1 H1
 refine plain (y_assign rfl rfl) rfl rfl rfl H1 ?_
 clear H1; intro a2 H2
 refine fin ?_
 refine then_n ?_
 refine wp_seq ?_
 refine wp_seq ?_
 refine reg ?_
 refine plain (y_move rfl rfl) rfl rfl rfl H2 ?_
 clear H2; intro a3 H3
 refine st_callg rfl z_call25 rfl rfl rfl rfl H3 (rcheight X hX h0 hlen dp de rx (.slice A1 X.length c1) (H3.sep.all _ MM) (H3.sep.all _ MM)) ?_
 clear H3; intro a4 wx4 H4
 refine plain (y_geq rfl rfl rfl) rfl rfl rfl H4 ?_
 clear H4; intro a5 H5
 refine fin ?_
 refine then_n ?_
 refine cnd H5 rfl (fun hc6 => ?_) (fun hc6 => ?_) -- cond 1
 ·skip
  try simp only [decide_eq_true_eq, decide_eq_false_iff_not, Bool.not_eq_true', Bool.not_eq_false', Bool.and_eq_true, Bool.not_eq_true, Bool.not_eq_false] at hc6
  have hf1 := hc6
  refine wp_seq ?_
  refine reg ?_
  refine plain (y_buildA rfl z_zeroN23 Tryd.underlying23 z_size5 rfl lay_n) rfl rfl rfl H5 ?_
  clear H5; intro a7 H7
  refine st_storeN rfl z_size23 rfl rfl (agg_cells _) UU q_one_b32 (q_len_b32 (by first | assumption | exact Tree.hash_len _)) (q_len_b32 (by first | assumption | exact Tree.hash_len _)) (q_spl_b32_0_b32 (by first | assumption | exact Tree.hash_len _) (by first | assumption | exact Tree.hash_len _)) (by decide) rfl rfl H7 ?_
  clear H7; intro wx8 H8
  refine plain (y_assign rfl rfl) rfl rfl rfl H8 ?_
  clear H8; intro a9 H9
  refine fin ?_
  refine then_n ?_
  refine wp_ret ?_
  refine then_r ?_
  -- return 1
  refine retct rfl H9 rfl z_agg23 z_size23 MM (q_len_b32 (by first | assumption | exact Tree.hash_len _)) rfl ?_
  first | (have hz0 := Tree.mine_full (c := (⟨Tree.bl X, dp, de⟩ : Tree.Chain)) (its := q.l) (salt := salt) (by rw [hhe]; omega); have hz1 := Tree.mineX_no (Y := X) (q := q) (salt := salt) (.inl (by omega)); rw [hz0, hz1]; exact ⟨_, _, rfl, ⟨_, rfl, rfl⟩, (H9.only (is := [It.row 26 35 (.slice A1 X.length c1) X.length (Inbox.bc X), It.blk rx 56 [(.slice A1 X.length c1), i64 dp, i64 de]]) (.cons PP (.cons PP (.nil _)))).sep⟩) | (rw [Tree.grow_err2] at hw1; have hz0 := Tree.mine_bad (c := (⟨Tree.bl X, dp, de⟩ : Tree.Chain)) (its := q.l) (salt := salt) (by rw [hhe]; omega) hw1; have hz1 := Tree.mineX_no (Y := X) (q := q) (salt := salt) (.inr hw1); rw [hz0, hz1]; exact ⟨_, _, rfl, ⟨_, by rw [Tree.grow_err2]; rfl, rfl⟩, (H9.only (is := [It.row 26 35 (.slice A1 X.length c1) X.length (Inbox.bc X), It.blk rx 56 [(.slice A1 X.length c1), i64 dp, i64 de]]) (.cons PP (.cons PP (.nil _)))).sep⟩) | (have hz2 := Tree.grow_fine hw2; have hz0 := Tree.mine_good (c := (⟨Tree.bl X, dp, de⟩ : Tree.Chain)) (by rw [hhe]; omega) hz2; have hz1 := Tree.mineX_ok (Y := X) (by omega) hz2; rw [hz0, hz1]; rw [Tree.growX_ok hz2] at H9; exact ⟨_, _, rfl, ⟨_, by rw [Tree.grow_ok hz2], rfl⟩, (H9.only (is := [It.row 26 35 (.slice A5 (X ++ [Tree.ofIA (Tree.bl X) q salt]).length c5) (X ++ [Tree.ofIA (Tree.bl X) q salt]).length (Inbox.bc (X ++ [Tree.ofIA (Tree.bl X) q salt])), It.blk rx 56 [(.slice A5 (X ++ [Tree.ofIA (Tree.bl X) q salt]).length c5), i64 dp, i64 de]]) (.cons PP (.cons PP (.nil _)))).sep⟩)
 ·skip
  try simp only [decide_eq_true_eq, decide_eq_false_iff_not, Bool.not_eq_true', Bool.not_eq_false', Bool.and_eq_true, Bool.not_eq_true, Bool.not_eq_false] at hc6
  have hf2 := hc6
  refine wp_skip ?_
  refine then_n ?_
  refine wp_seq ?_
  refine reg ?_
  refine plain (y_move rfl rfl) rfl rfl rfl H5 ?_
  clear H5; intro a10 H10
  refine plain (y_nilCheck rfl rfl) rfl rfl rfl H10 ?_
  clear H10; intro a11 H11
  refine plain (y_fieldB rfl z_field56_0 rfl (by first | (simp only [Nat.zero_add, Nat.add_zero, Nat.reduceAdd]; rfl) | rfl)) rfl rfl rfl H11 ?_
  clear H11; intro a12 H12
  refine plain (y_loadB rfl z_agg36 rfl MM q_ix_c3_0) rfl rfl rfl H12 ?_
  clear H12; intro a13 H13
  refine plain (y_move rfl rfl) rfl rfl rfl H13 ?_
  clear H13; intro a14 H14
  refine plain (y_move rfl rfl) rfl rfl rfl H14 ?_
  clear H14; intro a15 H15
  refine st_call rfl z_call59 rfl rfl rfl rfl H15 (rgrow X hX h0 (by omega) A1 c1 q hq salt hsa (Rd.ofSep (rd_row MM) H15.sep) (fun y hy => (hI y hy).at_ H15.sep) (hRq.at_ H15.sep)) ?_
  clear H15; intro v16 l16 a16 wx16 hf16 H16
  obtain ⟨u16, rfl, rfl⟩ := hf16
  simp only [List.cons_append, List.nil_append] at H16
  obtain ⟨A5, c5, rfl, hR5, hm5⟩ := row_shape (v := u16) H16.sep MM
  refine plain (y_move rfl rfl) rfl rfl rfl H16 ?_
  clear H16; intro a17 H17
  refine plain (y_extract rfl rfl rfl) rfl rfl rfl H17 ?_
  clear H17; intro a18 H18
  refine plain (y_extract rfl rfl rfl) rfl rfl rfl H18 ?_
  clear H18; intro a19 H19
  refine plain (y_extract rfl rfl rfl) rfl rfl rfl H19 ?_
  clear H19; intro a20 H20
  refine st_alloc rfl z_zeroN23 rfl rfl rfl H20 ?_
  clear H20; intro b21 a21 wx21 H21
  refine plain (y_assign rfl rfl) rfl rfl rfl H21 ?_
  clear H21; intro a22 H22
  refine st_storeN rfl z_size23 rfl rfl (agg_cells _) UU q_one_b32 (q_len_b32 (by first | assumption | exact Tree.hash_len _)) (q_len_b32 (by first | assumption | exact Tree.hash_len _)) (q_spl_b32_0_b32 (by first | assumption | exact Tree.hash_len _) (by first | assumption | exact Tree.hash_len _)) (by decide) rfl rfl H22 ?_
  clear H22; intro wx23 H23
  refine plain (y_assign rfl rfl) rfl rfl rfl H23 ?_
  clear H23; intro a24 H24
  refine fin ?_
  refine then_n ?_
  refine wp_seq ?_
  refine wp_seq ?_
  refine reg ?_
  refine plain (y_move rfl rfl) rfl rfl rfl H24 ?_
  clear H24; intro a25 H25
  refine plain (y_neq rfl rfl rfl) rfl rfl rfl H25 ?_
  clear H25; intro a26 H26
  refine fin ?_
  refine then_n ?_
  refine cnd H26 rfl (fun hc27 => ?_) (fun hc27 => ?_) -- cond 2
  ·skip
   try simp only [decide_eq_true_eq, decide_eq_false_iff_not, Bool.not_eq_true', Bool.not_eq_false', Bool.and_eq_true, Bool.not_eq_true, Bool.not_eq_false] at hc27
   have hw1 := hc27
   refine wp_seq ?_
   refine reg ?_
   refine plain (y_buildA rfl z_zeroN23 Tryd.underlying23 z_size5 rfl lay_n) rfl rfl rfl H26 ?_
   clear H26; intro a28 H28
   refine plain (y_move rfl rfl) rfl rfl rfl H28 ?_
   clear H28; intro a29 H29
   refine st_storeN rfl z_size23 rfl rfl (agg_cells _) UU q_one_b32 (q_len_b32 (by first | assumption | exact Tree.hash_len _)) (q_len_b32 (by first | assumption | exact Tree.hash_len _)) (q_spl_b32_0_b32 (by first | assumption | exact Tree.hash_len _) (by first | assumption | exact Tree.hash_len _)) (by decide) rfl rfl H29 ?_
   clear H29; intro wx30 H30
   refine plain (y_assign rfl rfl) rfl rfl rfl H30 ?_
   clear H30; intro a31 H31
   refine fin ?_
   refine then_n ?_
   refine wp_ret ?_
   refine then_r ?_
   -- return 2
   refine retct rfl H31 rfl z_agg23 z_size23 MM (q_len_b32 (by first | assumption | exact Tree.hash_len _)) rfl ?_
   first | (have hz0 := Tree.mine_full (c := (⟨Tree.bl X, dp, de⟩ : Tree.Chain)) (its := q.l) (salt := salt) (by rw [hhe]; omega); have hz1 := Tree.mineX_no (Y := X) (q := q) (salt := salt) (.inl (by omega)); rw [hz0, hz1]; exact ⟨_, _, rfl, ⟨_, rfl, rfl⟩, (H31.only (is := [It.row 26 35 (.slice A1 X.length c1) X.length (Inbox.bc X), It.blk rx 56 [(.slice A1 X.length c1), i64 dp, i64 de]]) (.cons PP (.cons PP (.nil _)))).sep⟩) | (rw [Tree.grow_err2] at hw1; have hz0 := Tree.mine_bad (c := (⟨Tree.bl X, dp, de⟩ : Tree.Chain)) (its := q.l) (salt := salt) (by rw [hhe]; omega) hw1; have hz1 := Tree.mineX_no (Y := X) (q := q) (salt := salt) (.inr hw1); rw [hz0, hz1]; exact ⟨_, _, rfl, ⟨_, by rw [Tree.grow_err2]; rfl, rfl⟩, (H31.only (is := [It.row 26 35 (.slice A1 X.length c1) X.length (Inbox.bc X), It.blk rx 56 [(.slice A1 X.length c1), i64 dp, i64 de]]) (.cons PP (.cons PP (.nil _)))).sep⟩) | (have hz2 := Tree.grow_fine hw2; have hz0 := Tree.mine_good (c := (⟨Tree.bl X, dp, de⟩ : Tree.Chain)) (by rw [hhe]; omega) hz2; have hz1 := Tree.mineX_ok (Y := X) (by omega) hz2; rw [hz0, hz1]; rw [Tree.growX_ok hz2] at H31; exact ⟨_, _, rfl, ⟨_, by rw [Tree.grow_ok hz2], rfl⟩, (H31.only (is := [It.row 26 35 (.slice A5 (X ++ [Tree.ofIA (Tree.bl X) q salt]).length c5) (X ++ [Tree.ofIA (Tree.bl X) q salt]).length (Inbox.bc (X ++ [Tree.ofIA (Tree.bl X) q salt])), It.blk rx 56 [(.slice A5 (X ++ [Tree.ofIA (Tree.bl X) q salt]).length c5), i64 dp, i64 de]]) (.cons PP (.cons PP (.nil _)))).sep⟩)
  ·skip
   try simp only [decide_eq_true_eq, decide_eq_false_iff_not, Bool.not_eq_true', Bool.not_eq_false', Bool.and_eq_true, Bool.not_eq_true, Bool.not_eq_false] at hc27
   have hw2 := Decidable.not_not.1 hc27
   refine wp_skip ?_
   refine then_n ?_
   refine wp_seq ?_
   refine reg ?_
   refine plain (y_move rfl rfl) rfl rfl rfl H26 ?_
   clear H26; intro a32 H32
   refine plain (y_move rfl rfl) rfl rfl rfl H32 ?_
   clear H32; intro a33 H33
   refine plain (y_nilCheck rfl rfl) rfl rfl rfl H33 ?_
   clear H33; intro a34 H34
   refine plain (y_fieldB rfl z_field56_0 rfl (by first | (simp only [Nat.zero_add, Nat.add_zero, Nat.reduceAdd]; rfl) | rfl)) rfl rfl rfl H34 ?_
   clear H34; intro a35 H35
   refine st_store1N rfl z_size36 rfl rfl rfl UU q_len_c3 q_set_c3_0 (by decide) rfl rfl H35 ?_
   clear H35; intro wx36 H36
   refine fin ?_
   refine then_n ?_
   refine wp_seq ?_
   refine reg ?_
   refine plain (y_loadAB rfl z_agg23 z_size23 rfl MM (q_ld_b32_0_32 (by first | assumption | exact Tree.hash_len _)) (q_len_b32 (by first | assumption | exact Tree.hash_len _))) rfl rfl rfl H36 ?_
   clear H36; intro a37 H37
   refine st_storeN rfl z_size23 rfl rfl (agg_cells _) UU q_one_b32 (q_len_b32 (by first | assumption | exact Tree.hash_len _)) (q_len_b32 (by first | assumption | exact Tree.hash_len _)) (q_spl_b32_0_b32 (by first | assumption | exact Tree.hash_len _) (by first | assumption | exact Tree.hash_len _)) (by decide) rfl rfl H37 ?_
   clear H37; intro wx38 H38
   refine plain (y_assign rfl rfl) rfl rfl rfl H38 ?_
   clear H38; intro a39 H39
   refine fin ?_
   refine then_n ?_
   refine wp_ret ?_
   -- return 3
   refine retct rfl H39 rfl z_agg23 z_size23 MM (q_len_b32 (by first | assumption | exact Tree.hash_len _)) rfl ?_
   first | (have hz0 := Tree.mine_full (c := (⟨Tree.bl X, dp, de⟩ : Tree.Chain)) (its := q.l) (salt := salt) (by rw [hhe]; omega); have hz1 := Tree.mineX_no (Y := X) (q := q) (salt := salt) (.inl (by omega)); rw [hz0, hz1]; exact ⟨_, _, rfl, ⟨_, rfl, rfl⟩, (H39.only (is := [It.row 26 35 (.slice A1 X.length c1) X.length (Inbox.bc X), It.blk rx 56 [(.slice A1 X.length c1), i64 dp, i64 de]]) (.cons PP (.cons PP (.nil _)))).sep⟩) | (rw [Tree.grow_err2] at hw1; have hz0 := Tree.mine_bad (c := (⟨Tree.bl X, dp, de⟩ : Tree.Chain)) (its := q.l) (salt := salt) (by rw [hhe]; omega) hw1; have hz1 := Tree.mineX_no (Y := X) (q := q) (salt := salt) (.inr hw1); rw [hz0, hz1]; exact ⟨_, _, rfl, ⟨_, by rw [Tree.grow_err2]; rfl, rfl⟩, (H39.only (is := [It.row 26 35 (.slice A1 X.length c1) X.length (Inbox.bc X), It.blk rx 56 [(.slice A1 X.length c1), i64 dp, i64 de]]) (.cons PP (.cons PP (.nil _)))).sep⟩) | (have hz2 := Tree.grow_fine hw2; have hz0 := Tree.mine_good (c := (⟨Tree.bl X, dp, de⟩ : Tree.Chain)) (by rw [hhe]; omega) hz2; have hz1 := Tree.mineX_ok (Y := X) (by omega) hz2; rw [hz0, hz1]; rw [Tree.growX_ok hz2] at H39; exact ⟨_, _, rfl, ⟨_, by rw [Tree.grow_ok hz2], rfl⟩, (H39.only (is := [It.row 26 35 (.slice A5 (X ++ [Tree.ofIA (Tree.bl X) q salt]).length c5) (X ++ [Tree.ofIA (Tree.bl X) q salt]).length (Inbox.bc (X ++ [Tree.ofIA (Tree.bl X) q salt])), It.blk rx 56 [(.slice A5 (X ++ [Tree.ofIA (Tree.bl X) q salt]).length c5), i64 dp, i64 de]]) (.cons PP (.cons PP (.nil _)))).sep⟩)

end Go.Proofs.YtlhddgkbbdfacaaDoor.C_Rm
