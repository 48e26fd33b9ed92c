/- Part of a proof about given Go functions: contracts of functions, or plain laws. -/
import Derived.Test.YtlhddgkbbdfacaaDoorS9
import Derived.Test.YtlhddgkbbdfacaaDoorS7
import Derived.Test.YtlhddgkbbdfacaaDoorS8
import Derived.Test.YtlhddgkbbdfacaaDoorS3
import Derived.Test.YtlhddgkbbdfacaaDoorS4
import Derived.Test.YtlhddgkbbdfacaaDoorS1
import Derived.Test.YtlhddgkbbdfacaaDoorS2
import Derived.Test.YtlhddgkbbdfacaaDoorProg
import Derived.Test.YtlhddgkbbdfacaaDoorW1
import Derived.Test.YtlhddgkbbdfacaaDoorW2
import Derived.Test.YtlhddgkbbdfacaaDoorW4
import Derived.Test.YtlhddgkbbdfacaaDoorS10
import Derived.Test.YtlhddgkbbdfacaaDoorW3
set_option linter.unusedVariables false
set_option linter.unusedSimpArgs false
namespace Go.Proofs.YtlhddgkbbdfacaaDoor.C_Rt
open Go.Sx Go.RowKit Go.Proofs.YtlhddgkbbdfacaaDoor.C_Block Go.Proofs.YtlhddgkbbdfacaaDoor.C_Sum Go.Proofs.YtlhddgkbbdfacaaDoor.C_Ref Go.Proofs.YtlhddgkbbdfacaaDoor.C_RSum Go.Proofs.YtlhddgkbbdfacaaDoor.C_Num Go.Proofs.YtlhddgkbbdfacaaDoor.C_Lay Go.Proofs.YtlhddgkbbdfacaaDoor.C_Leaf Go.Proofs.YtlhddgkbbdfacaaDoor.C_Item Go.Proofs.YtlhddgkbbdfacaaDoor.C_RefI Go.Proofs.YtlhddgkbbdfacaaDoor.C_Eq Go.Proofs.YtlhddgkbbdfacaaDoor.C_Hash Go.Proofs.YtlhddgkbbdfacaaDoor.C_Nx Go.Proofs.YtlhddgkbbdfacaaDoor.C_Sm Go.Proofs.YtlhddgkbbdfacaaDoor.C_Rc Go.Proofs.YtlhddgkbbdfacaaDoor.C_Rg

theorem z_call25 : callB Tryd.prog 25 = true := by kernel_rfl
theorem z_field56_0 : fieldB Tryd.prog 56 0 = some 0 := by kernel_rfl
theorem z_agg36 : aggB Tryd.prog 36 = some false := by kernel_rfl
theorem q_ix_c3_0 {a0 a1 a2 : Value} : (a0 :: a1 :: a2 :: [])[0]? = some a0 := ix_0
theorem z_size26 : sizeB Tryd.prog 26 = some 35 := by kernel_rfl
theorem z_size24 : sizeB Tryd.prog 24 = some 1 := by kernel_rfl
theorem z_agg24 : aggB Tryd.prog 24 = some false := by kernel_rfl
theorem z_call59 : callB Tryd.prog 59 = true := by kernel_rfl
theorem z_zeroN23 : zeroL Tryd.prog 23 = some ((List.replicate 32 (0 : UInt8)).map u8) := by kernel_rfl
theorem z_size23 : sizeB Tryd.prog 23 = some 32 := by kernel_rfl
theorem q_one_b32 {t0 : List UInt8} : (t0.map u8).all (·.oneCell') = true := (one_u8 _)
theorem q_len_b32 {t0 : List UInt8} (h0 : t0.length = 32) : (t0.map u8).length = 32 := (len_e (k := 32) h0)
theorem q_spl_b32_0_b32 {t0 : List UInt8} {s0 : List UInt8} (h0 : t0.length = 32) (g0 : s0.length = 32) : spl (t0.map u8) 0 (s0.map u8) = s0.map u8 := (spl_a (z := 32) (len_e (k := 32) h0) (len_e (k := 32) g0))
theorem z_size36 : sizeB Tryd.prog 36 = some 1 := by kernel_rfl
theorem q_len_c3 {a0 a1 a2 : Value} : (a0 :: a1 :: a2 :: []).length = 3 := (len_c (n := 2) (len_c (n := 1) (len_c (n := 0) len_n)))
theorem q_set_c3_0 {a0 a1 a2 : Value} {v : Value} : (a0 :: a1 :: a2 :: []).set 0 v = v :: a1 :: a2 :: [] := set_0
theorem z_field56_2 : fieldB Tryd.prog 56 2 = some 2 := by kernel_rfl
theorem z_agg3 : aggB Tryd.prog 3 = some false := by kernel_rfl
theorem q_ix_c3_2 {a0 a1 a2 : Value} : (a0 :: a1 :: a2 :: [])[2]? = some a2 := (ix_c (o := 1) (ix_c (o := 0) ix_0))
theorem z_size3 : sizeB Tryd.prog 3 = some 1 := by kernel_rfl
theorem q_set_c3_2 {a0 a1 a2 : Value} {v : Value} : (a0 :: a1 :: a2 :: []).set 2 v = a0 :: a1 :: v :: [] := (set_c (o := 1) (set_c (o := 0) set_0))

set_option maxRecDepth 100000 in
set_option maxHeartbeats 8000000 in
theorem rturn (X : List Inbox.BA) (hX : Tree.Wfs X) (h0 : 0 < X.length) (hlen : X.length ≤ 4097) (dp de : Int) (rx : Nat) (v : Value) (hde : Note.I64 de) (under salt : Int) (hun : Note.I64 under) (hsa : Note.I64 salt) (D : Option Addr) (cd : Nat) (bs : List Tree.IA) (hbs : ∀ q ∈ bs, Tree.IA.Wf q) (hbl0 : bs.length ≤ 1000000) {w : World} (hs : Sep (fps [It.row 26 35 v X.length (Inbox.bc X), It.blk rx 56 [v, i64 dp, i64 de]]) w w [It.row 26 35 v X.length (Inbox.bc X), It.blk rx 56 [v, i64 dp, i64 de]]) (hI : ∀ y ∈ X, Tree.Keeps [It.row 26 35 v X.length (Inbox.bc X), It.blk rx 56 [v, i64 dp, i64 de]] w y.A (Inbox.ic y.b.items)) (hK : Tree.Keeps [It.row 26 35 v X.length (Inbox.bc X), It.blk rx 56 [v, i64 dp, i64 de]] w D (Tree.iac bs)) (hK2 : ∀ q ∈ bs, Tree.Keeps [It.row 26 35 v X.length (Inbox.bc X), It.blk rx 56 [v, i64 dp, i64 de]] w q.A (Inbox.ic q.l))  : Calls Tryd.prog 43 #[.pointer (some ⟨rx, 0, none⟩), .int .i64 under, .slice D bs.length cd, .int .i64 salt] w (Post (fps [It.row 26 35 v X.length (Inbox.bc X), It.blk rx 56 [v, i64 dp, i64 de]]) w fun r l' => ∃ v', r = .int .i64 (Tree.turn (⟨Tree.bl X, dp, de⟩ : Tree.Chain) under (Tree.itl bs) salt).2 ∧ l' = [It.row 26 35 v' (Tree.turnX X under bs salt).length (Inbox.bc (Tree.turnX X under bs salt)), It.blk rx 56 [v', i64 dp, i64 (Tree.turn (⟨Tree.bl X, dp, de⟩ : Tree.Chain) under (Tree.itl bs) salt).1.deepest]]) := by
 obtain ⟨A1, c1, rfl, hR1, hm1⟩ := row_shape (v := v) hs MM
 have hcap1 := row_cap (A := A1) (c := c1) hs MM
 have hZl : Note.Z.length = 32 := Note.Z_len
 have hbl := Tree.bl_len X
 have hil := Tree.itl_len bs
 have hun2 := hun.2
 have hun1 := hun.1
 have hde1 := hde.1
 have hde2 := hde.2
 have hhe : Tree.Chain.height (⟨Tree.bl X, dp, de⟩ : Tree.Chain) = (X.length : Int) - 1 := by show ((Tree.bl X).length : Int) - 1 = _; rw [hbl]
 have lz32 : (List.replicate 32 (0 : UInt8)).length = 32 := List.length_replicate
 refine enterL (args := [.pointer (some ⟨rx, 0, none⟩), .int .i64 under, .slice D bs.length cd, .int .i64 salt]) Tryd.func43 rfl rfl (l := [It.row 26 35 (.slice A1 X.length c1) X.length (Inbox.bc X), It.blk rx 56 [(.slice A1 X.length c1), i64 dp, i64 de]]) hs ?_
 intro a0 H0
 refine wp_seq ?_
 refine reg ?_
 refine plain (y_assign rfl rfl) rfl rfl rfl H0 ?_
 clear H0; intro a1 H1
 refine fin ?_
 refine then_n ?_
 refine wp_seq ?_
 refine wp_seq ?_
 refine reg ?_
 refine plain (y_move rfl rfl) rfl rfl rfl H1 ?_
 clear H1; intro a2 H2
 refine plain (y_lss rfl rfl rfl) rfl rfl rfl H2 ?_
 clear H2; intro a3 H3
 refine fin ?_
 refine then_n ?_
 refine cnd H3 rfl (fun hc4 => ?_) (fun hc4 => ?_) -- cond 1
 ·skip
  try simp only [decide_eq_true_eq, decide_eq_false_iff_not, Bool.not_eq_true', Bool.not_eq_false', Bool.and_eq_true, Bool.not_eq_true, Bool.not_eq_false] at hc4
  have hn1 := hc4
  refine wp_seq ?_
  refine reg ?_
  refine plain (y_assign rfl rfl) rfl rfl rfl H3 ?_
  clear H3; intro a5 H5
  refine fin ?_
  refine then_n ?_
  refine wp_ret ?_
  refine then_r ?_
  -- return 1
  refine ret1 rfl H5 rfl ?_
  first | (have hz9 := hFA2; rw [Tree.bl_take] at hFA2; have hbl2 : (Tree.bl X).take ((Tree.bl X).length - under.toNat) = (Tree.bl X).take (X.length - under.toNat) := (by rw [hbl]); have hz0 := Tree.turn_good (c := (⟨Tree.bl X, dp, de⟩ : Tree.Chain)) (u := under) (bs := Tree.itl bs) (salt := salt) (by omega) (by rw [hhe]; omega) (by rw [hil]; omega) (by rw [hhe, hil]; omega) (by dsimp only; rw [hbl2]; exact hFA2); have hz1 := Tree.turnX_ok (Y := X) (u := under) (dp := dp) (de := de) (bs := bs) (salt := salt) (by rw [hz0]); rw [hz0, hz1]; rw [hall] at H5; have hk0 : ¬ k = 0 := (by omega); rw [Tree.rowIf_pos hk0] at H5; exact ⟨_, _, rfl, ⟨_, rfl, rfl⟩, (H5.only (is := [It.row 26 35 (.slice A3 (Tree.growsX (X.take (X.length - under.toNat)) salt bs).length c3) (Tree.growsX (X.take (X.length - under.toNat)) salt bs).length (Inbox.bc (Tree.growsX (X.take (X.length - under.toNat)) salt bs)), It.blk rx 56 [(.slice A3 (Tree.growsX (X.take (X.length - under.toNat)) salt bs).length c3), i64 dp, i64 (max de under)]]) (.cons PP (.cons PP (.nil _)))).sep⟩) | (have hz9 := hw1; have hz1 := Tree.far_fall hF (by rw [hil]; omega) (by rw [Tree.itl_at hkl, ← Tree.grow_err2]; exact hw1); rw [Tree.itl_at hkl, ← Tree.grow_err2, Tree.bl_take] at hz1; have hbl2 : (Tree.bl X).take ((Tree.bl X).length - under.toNat) = (Tree.bl X).take (X.length - under.toNat) := (by rw [hbl]); have hz0 := Tree.turn_bad (c := (⟨Tree.bl X, dp, de⟩ : Tree.Chain)) (u := under) (bs := Tree.itl bs) (salt := salt) (by omega) (by rw [hhe]; omega) (by rw [hil]; omega) (by rw [hhe, hil]; omega) (by dsimp only; rw [hbl2, hz1]; exact hw1); dsimp only at hz0; rw [hbl2, hz1] at hz0; have hz3 := Tree.turnX_no (Y := X) (u := under) (dp := dp) (de := de) (bs := bs) (salt := salt) (by rw [hz0]; exact hw1); rw [hz0, hz3]; exact ⟨_, _, rfl, ⟨_, rfl, rfl⟩, (H5.only (is := [It.row 26 35 (.slice A1 X.length c1) X.length (Inbox.bc X), It.blk rx 56 [(.slice A1 X.length c1), i64 dp, i64 de]]) (.cons PP (.cons PP (.nil _)))).sep⟩) | (have hz0 := Tree.turn_neg (c := (⟨Tree.bl X, dp, de⟩ : Tree.Chain)) (u := under) (bs := Tree.itl bs) (salt := salt) hn1; have hz1 := Tree.turnX_no (Y := X) (u := under) (dp := dp) (de := de) (bs := bs) (salt := salt) (by rw [hz0]; dsimp only; omega); rw [hz0, hz1]; exact ⟨_, _, rfl, ⟨_, rfl, rfl⟩, (H5.only (is := [It.row 26 35 (.slice A1 X.length c1) X.length (Inbox.bc X), It.blk rx 56 [(.slice A1 X.length c1), i64 dp, i64 de]]) (.cons PP (.cons PP (.nil _)))).sep⟩) | (have hz0 := Tree.turn_deepR (c := (⟨Tree.bl X, dp, de⟩ : Tree.Chain)) (u := under) (bs := Tree.itl bs) (salt := salt) hn2 (by rw [hhe]; omega); have hz1 := Tree.turnX_no (Y := X) (u := under) (dp := dp) (de := de) (bs := bs) (salt := salt) (by rw [hz0]; dsimp only; omega); rw [hz0, hz1]; exact ⟨_, _, rfl, ⟨_, rfl, rfl⟩, (H5.only (is := [It.row 26 35 (.slice A1 X.length c1) X.length (Inbox.bc X), It.blk rx 56 [(.slice A1 X.length c1), i64 dp, i64 de]]) (.cons PP (.cons PP (.nil _)))).sep⟩) | (have hz0 := Tree.turn_few (c := (⟨Tree.bl X, dp, de⟩ : Tree.Chain)) (u := under) (bs := Tree.itl bs) (salt := salt) hn2 (by rw [hhe]; omega) (by rw [hil]; omega); have hz1 := Tree.turnX_no (Y := X) (u := under) (dp := dp) (de := de) (bs := bs) (salt := salt) (by rw [hz0]; dsimp only; omega); rw [hz0, hz1]; exact ⟨_, _, rfl, ⟨_, rfl, rfl⟩, (H5.only (is := [It.row 26 35 (.slice A1 X.length c1) X.length (Inbox.bc X), It.blk rx 56 [(.slice A1 X.length c1), i64 dp, i64 de]]) (.cons PP (.cons PP (.nil _)))).sep⟩) | (have hz0 := Tree.turn_full (c := (⟨Tree.bl X, dp, de⟩ : Tree.Chain)) (u := under) (bs := Tree.itl bs) (salt := salt) hn2 (by rw [hhe]; omega) (by rw [hil]; omega) (by rw [hhe, hil]; omega); have hz1 := Tree.turnX_no (Y := X) (u := under) (dp := dp) (de := de) (bs := bs) (salt := salt) (by rw [hz0]; dsimp only; omega); rw [hz0, hz1]; exact ⟨_, _, rfl, ⟨_, rfl, rfl⟩, (H5.only (is := [It.row 26 35 (.slice A1 X.length c1) X.length (Inbox.bc X), It.blk rx 56 [(.slice A1 X.length c1), i64 dp, i64 de]]) (.cons PP (.cons PP (.nil _)))).sep⟩)
 ·skip
  try simp only [decide_eq_true_eq, decide_eq_false_iff_not, Bool.not_eq_true', Bool.not_eq_false', Bool.and_eq_true, Bool.not_eq_true, Bool.not_eq_false] at hc4
  have hn2 := hc4
  refine wp_skip ?_
  refine then_n ?_
  refine wp_seq ?_
  refine wp_seq ?_
  refine reg ?_
  refine plain (y_move rfl rfl) rfl rfl rfl H3 ?_
  clear H3; intro a6 H6
  refine plain (y_move rfl rfl) rfl rfl rfl H6 ?_
  clear H6; intro a7 H7
  refine st_callg rfl z_call25 rfl rfl rfl rfl H7 (rcheight X hX h0 hlen dp de rx (.slice A1 X.length c1) (H7.sep.all _ MM) (H7.sep.all _ MM)) ?_
  clear H7; intro a8 wx8 H8
  refine plain (y_gtr rfl rfl rfl) rfl rfl rfl H8 ?_
  clear H8; intro a9 H9
  refine fin ?_
  refine then_n ?_
  refine cnd H9 rfl (fun hc10 => ?_) (fun hc10 => ?_) -- cond 2
  ·skip
   try simp only [decide_eq_true_eq, decide_eq_false_iff_not, Bool.not_eq_true', Bool.not_eq_false', Bool.and_eq_true, Bool.not_eq_true, Bool.not_eq_false] at hc10
   have hd1 := hc10
   refine wp_seq ?_
   refine reg ?_
   refine plain (y_assign rfl rfl) rfl rfl rfl H9 ?_
   clear H9; intro a11 H11
   refine fin ?_
   refine then_n ?_
   refine wp_ret ?_
   refine then_r ?_
   -- return 2
   refine ret1 rfl H11 rfl ?_
   first | (have hz9 := hFA2; rw [Tree.bl_take] at hFA2; have hbl2 : (Tree.bl X).take ((Tree.bl X).length - under.toNat) = (Tree.bl X).take (X.length - under.toNat) := (by rw [hbl]); have hz0 := Tree.turn_good (c := (⟨Tree.bl X, dp, de⟩ : Tree.Chain)) (u := under) (bs := Tree.itl bs) (salt := salt) (by omega) (by rw [hhe]; omega) (by rw [hil]; omega) (by rw [hhe, hil]; omega) (by dsimp only; rw [hbl2]; exact hFA2); have hz1 := Tree.turnX_ok (Y := X) (u := under) (dp := dp) (de := de) (bs := bs) (salt := salt) (by rw [hz0]); rw [hz0, hz1]; rw [hall] at H11; have hk0 : ¬ k = 0 := (by omega); rw [Tree.rowIf_pos hk0] at H11; exact ⟨_, _, rfl, ⟨_, rfl, rfl⟩, (H11.only (is := [It.row 26 35 (.slice A3 (Tree.growsX (X.take (X.length - under.toNat)) salt bs).length c3) (Tree.growsX (X.take (X.length - under.toNat)) salt bs).length (Inbox.bc (Tree.growsX (X.take (X.length - under.toNat)) salt bs)), It.blk rx 56 [(.slice A3 (Tree.growsX (X.take (X.length - under.toNat)) salt bs).length c3), i64 dp, i64 (max de under)]]) (.cons PP (.cons PP (.nil _)))).sep⟩) | (have hz9 := hw1; have hz1 := Tree.far_fall hF (by rw [hil]; omega) (by rw [Tree.itl_at hkl, ← Tree.grow_err2]; exact hw1); rw [Tree.itl_at hkl, ← Tree.grow_err2, Tree.bl_take] at hz1; have hbl2 : (Tree.bl X).take ((Tree.bl X).length - under.toNat) = (Tree.bl X).take (X.length - under.toNat) := (by rw [hbl]); have hz0 := Tree.turn_bad (c := (⟨Tree.bl X, dp, de⟩ : Tree.Chain)) (u := under) (bs := Tree.itl bs) (salt := salt) (by omega) (by rw [hhe]; omega) (by rw [hil]; omega) (by rw [hhe, hil]; omega) (by dsimp only; rw [hbl2, hz1]; exact hw1); dsimp only at hz0; rw [hbl2, hz1] at hz0; have hz3 := Tree.turnX_no (Y := X) (u := under) (dp := dp) (de := de) (bs := bs) (salt := salt) (by rw [hz0]; exact hw1); rw [hz0, hz3]; exact ⟨_, _, rfl, ⟨_, rfl, rfl⟩, (H11.only (is := [It.row 26 35 (.slice A1 X.length c1) X.length (Inbox.bc X), It.blk rx 56 [(.slice A1 X.length c1), i64 dp, i64 de]]) (.cons PP (.cons PP (.nil _)))).sep⟩) | (have hz0 := Tree.turn_neg (c := (⟨Tree.bl X, dp, de⟩ : Tree.Chain)) (u := under) (bs := Tree.itl bs) (salt := salt) hn1; have hz1 := Tree.turnX_no (Y := X) (u := under) (dp := dp) (de := de) (bs := bs) (salt := salt) (by rw [hz0]; dsimp only; omega); rw [hz0, hz1]; exact ⟨_, _, rfl, ⟨_, rfl, rfl⟩, (H11.only (is := [It.row 26 35 (.slice A1 X.length c1) X.length (Inbox.bc X), It.blk rx 56 [(.slice A1 X.length c1), i64 dp, i64 de]]) (.cons PP (.cons PP (.nil _)))).sep⟩) | (have hz0 := Tree.turn_deepR (c := (⟨Tree.bl X, dp, de⟩ : Tree.Chain)) (u := under) (bs := Tree.itl bs) (salt := salt) hn2 (by rw [hhe]; omega); have hz1 := Tree.turnX_no (Y := X) (u := under) (dp := dp) (de := de) (bs := bs) (salt := salt) (by rw [hz0]; dsimp only; omega); rw [hz0, hz1]; exact ⟨_, _, rfl, ⟨_, rfl, rfl⟩, (H11.only (is := [It.row 26 35 (.slice A1 X.length c1) X.length (Inbox.bc X), It.blk rx 56 [(.slice A1 X.length c1), i64 dp, i64 de]]) (.cons PP (.cons PP (.nil _)))).sep⟩) | (have hz0 := Tree.turn_few (c := (⟨Tree.bl X, dp, de⟩ : Tree.Chain)) (u := under) (bs := Tree.itl bs) (salt := salt) hn2 (by rw [hhe]; omega) (by rw [hil]; omega); have hz1 := Tree.turnX_no (Y := X) (u := under) (dp := dp) (de := de) (bs := bs) (salt := salt) (by rw [hz0]; dsimp only; omega); rw [hz0, hz1]; exact ⟨_, _, rfl, ⟨_, rfl, rfl⟩, (H11.only (is := [It.row 26 35 (.slice A1 X.length c1) X.length (Inbox.bc X), It.blk rx 56 [(.slice A1 X.length c1), i64 dp, i64 de]]) (.cons PP (.cons PP (.nil _)))).sep⟩) | (have hz0 := Tree.turn_full (c := (⟨Tree.bl X, dp, de⟩ : Tree.Chain)) (u := under) (bs := Tree.itl bs) (salt := salt) hn2 (by rw [hhe]; omega) (by rw [hil]; omega) (by rw [hhe, hil]; omega); have hz1 := Tree.turnX_no (Y := X) (u := under) (dp := dp) (de := de) (bs := bs) (salt := salt) (by rw [hz0]; dsimp only; omega); rw [hz0, hz1]; exact ⟨_, _, rfl, ⟨_, rfl, rfl⟩, (H11.only (is := [It.row 26 35 (.slice A1 X.length c1) X.length (Inbox.bc X), It.blk rx 56 [(.slice A1 X.length c1), i64 dp, i64 de]]) (.cons PP (.cons PP (.nil _)))).sep⟩)
  ·skip
   try simp only [decide_eq_true_eq, decide_eq_false_iff_not, Bool.not_eq_true', Bool.not_eq_false', Bool.and_eq_true, Bool.not_eq_true, Bool.not_eq_false] at hc10
   have hd2 := hc10
   refine wp_skip ?_
   refine then_n ?_
   refine wp_seq ?_
   refine wp_seq ?_
   refine reg ?_
   refine plain (y_move rfl rfl) rfl rfl rfl H9 ?_
   clear H9; intro a12 H12
   refine plain (y_len rfl Tryd.underlying37 rfl) rfl rfl rfl H12 ?_
   clear H12; intro a13 H13
   refine plain (y_move rfl rfl) rfl rfl rfl H13 ?_
   clear H13; intro a14 H14
   refine plain (y_leq rfl rfl rfl) rfl rfl rfl H14 ?_
   clear H14; intro a15 H15
   refine fin ?_
   refine then_n ?_
   refine cnd H15 rfl (fun hc16 => ?_) (fun hc16 => ?_) -- cond 3
   ·skip
    try simp only [decide_eq_true_eq, decide_eq_false_iff_not, Bool.not_eq_true', Bool.not_eq_false', Bool.and_eq_true, Bool.not_eq_true, Bool.not_eq_false] at hc16
    have hf1 := hc16
    refine wp_seq ?_
    refine reg ?_
    refine plain (y_assign rfl rfl) rfl rfl rfl H15 ?_
    clear H15; intro a17 H17
    refine fin ?_
    refine then_n ?_
    refine wp_ret ?_
    refine then_r ?_
    -- return 3
    refine ret1 rfl H17 rfl ?_
    first | (have hz9 := hFA2; rw [Tree.bl_take] at hFA2; have hbl2 : (Tree.bl X).take ((Tree.bl X).length - under.toNat) = (Tree.bl X).take (X.length - under.toNat) := (by rw [hbl]); have hz0 := Tree.turn_good (c := (⟨Tree.bl X, dp, de⟩ : Tree.Chain)) (u := under) (bs := Tree.itl bs) (salt := salt) (by omega) (by rw [hhe]; omega) (by rw [hil]; omega) (by rw [hhe, hil]; omega) (by dsimp only; rw [hbl2]; exact hFA2); have hz1 := Tree.turnX_ok (Y := X) (u := under) (dp := dp) (de := de) (bs := bs) (salt := salt) (by rw [hz0]); rw [hz0, hz1]; rw [hall] at H17; have hk0 : ¬ k = 0 := (by omega); rw [Tree.rowIf_pos hk0] at H17; exact ⟨_, _, rfl, ⟨_, rfl, rfl⟩, (H17.only (is := [It.row 26 35 (.slice A3 (Tree.growsX (X.take (X.length - under.toNat)) salt bs).length c3) (Tree.growsX (X.take (X.length - under.toNat)) salt bs).length (Inbox.bc (Tree.growsX (X.take (X.length - under.toNat)) salt bs)), It.blk rx 56 [(.slice A3 (Tree.growsX (X.take (X.length - under.toNat)) salt bs).length c3), i64 dp, i64 (max de under)]]) (.cons PP (.cons PP (.nil _)))).sep⟩) | (have hz9 := hw1; have hz1 := Tree.far_fall hF (by rw [hil]; omega) (by rw [Tree.itl_at hkl, ← Tree.grow_err2]; exact hw1); rw [Tree.itl_at hkl, ← Tree.grow_err2, Tree.bl_take] at hz1; have hbl2 : (Tree.bl X).take ((Tree.bl X).length - under.toNat) = (Tree.bl X).take (X.length - under.toNat) := (by rw [hbl]); have hz0 := Tree.turn_bad (c := (⟨Tree.bl X, dp, de⟩ : Tree.Chain)) (u := under) (bs := Tree.itl bs) (salt := salt) (by omega) (by rw [hhe]; omega) (by rw [hil]; omega) (by rw [hhe, hil]; omega) (by dsimp only; rw [hbl2, hz1]; exact hw1); dsimp only at hz0; rw [hbl2, hz1] at hz0; have hz3 := Tree.turnX_no (Y := X) (u := under) (dp := dp) (de := de) (bs := bs) (salt := salt) (by rw [hz0]; exact hw1); rw [hz0, hz3]; exact ⟨_, _, rfl, ⟨_, rfl, rfl⟩, (H17.only (is := [It.row 26 35 (.slice A1 X.length c1) X.length (Inbox.bc X), It.blk rx 56 [(.slice A1 X.length c1), i64 dp, i64 de]]) (.cons PP (.cons PP (.nil _)))).sep⟩) | (have hz0 := Tree.turn_neg (c := (⟨Tree.bl X, dp, de⟩ : Tree.Chain)) (u := under) (bs := Tree.itl bs) (salt := salt) hn1; have hz1 := Tree.turnX_no (Y := X) (u := under) (dp := dp) (de := de) (bs := bs) (salt := salt) (by rw [hz0]; dsimp only; omega); rw [hz0, hz1]; exact ⟨_, _, rfl, ⟨_, rfl, rfl⟩, (H17.only (is := [It.row 26 35 (.slice A1 X.length c1) X.length (Inbox.bc X), It.blk rx 56 [(.slice A1 X.length c1), i64 dp, i64 de]]) (.cons PP (.cons PP (.nil _)))).sep⟩) | (have hz0 := Tree.turn_deepR (c := (⟨Tree.bl X, dp, de⟩ : Tree.Chain)) (u := under) (bs := Tree.itl bs) (salt := salt) hn2 (by rw [hhe]; omega); have hz1 := Tree.turnX_no (Y := X) (u := under) (dp := dp) (de := de) (bs := bs) (salt := salt) (by rw [hz0]; dsimp only; omega); rw [hz0, hz1]; exact ⟨_, _, rfl, ⟨_, rfl, rfl⟩, (H17.only (is := [It.row 26 35 (.slice A1 X.length c1) X.length (Inbox.bc X), It.blk rx 56 [(.slice A1 X.length c1), i64 dp, i64 de]]) (.cons PP (.cons PP (.nil _)))).sep⟩) | (have hz0 := Tree.turn_few (c := (⟨Tree.bl X, dp, de⟩ : Tree.Chain)) (u := under) (bs := Tree.itl bs) (salt := salt) hn2 (by rw [hhe]; omega) (by rw [hil]; omega); have hz1 := Tree.turnX_no (Y := X) (u := under) (dp := dp) (de := de) (bs := bs) (salt := salt) (by rw [hz0]; dsimp only; omega); rw [hz0, hz1]; exact ⟨_, _, rfl, ⟨_, rfl, rfl⟩, (H17.only (is := [It.row 26 35 (.slice A1 X.length c1) X.length (Inbox.bc X), It.blk rx 56 [(.slice A1 X.length c1), i64 dp, i64 de]]) (.cons PP (.cons PP (.nil _)))).sep⟩) | (have hz0 := Tree.turn_full (c := (⟨Tree.bl X, dp, de⟩ : Tree.Chain)) (u := under) (bs := Tree.itl bs) (salt := salt) hn2 (by rw [hhe]; omega) (by rw [hil]; omega) (by rw [hhe, hil]; omega); have hz1 := Tree.turnX_no (Y := X) (u := under) (dp := dp) (de := de) (bs := bs) (salt := salt) (by rw [hz0]; dsimp only; omega); rw [hz0, hz1]; exact ⟨_, _, rfl, ⟨_, rfl, rfl⟩, (H17.only (is := [It.row 26 35 (.slice A1 X.length c1) X.length (Inbox.bc X), It.blk rx 56 [(.slice A1 X.length c1), i64 dp, i64 de]]) (.cons PP (.cons PP (.nil _)))).sep⟩)
   ·skip
    try simp only [decide_eq_true_eq, decide_eq_false_iff_not, Bool.not_eq_true', Bool.not_eq_false', Bool.and_eq_true, Bool.not_eq_true, Bool.not_eq_false] at hc16
    have hf2 := hc16
    refine wp_skip ?_
    refine then_n ?_
    refine wp_seq ?_
    refine wp_seq ?_
    refine reg ?_
    refine plain (y_move rfl rfl) rfl rfl rfl H15 ?_
    clear H15; intro a18 H18
    refine st_callg rfl z_call25 rfl rfl rfl rfl H18 (rcheight X hX h0 hlen dp de rx (.slice A1 X.length c1) (H18.sep.all _ MM) (H18.sep.all _ MM)) ?_
    clear H18; intro a19 wx19 H19
    refine plain (y_move rfl rfl) rfl rfl rfl H19 ?_
    clear H19; intro a20 H20
    refine plain (y_sub rfl rfl rfl (by first | exact w64 (by omega) (by omega) | rfl)) rfl rfl rfl H20 ?_
    clear H20; intro a21 H21
    refine plain (y_move rfl rfl) rfl rfl rfl H21 ?_
    clear H21; intro a22 H22
    refine plain (y_len rfl Tryd.underlying37 rfl) rfl rfl rfl H22 ?_
    clear H22; intro a23 H23
    refine plain (y_add rfl rfl rfl (by first | exact w64 (by omega) (by omega) | rfl)) rfl rfl rfl H23 ?_
    clear H23; intro a24 H24
    refine plain (y_gtr rfl rfl rfl) rfl rfl rfl H24 ?_
    clear H24; intro a25 H25
    refine fin ?_
    refine then_n ?_
    refine cnd H25 rfl (fun hc26 => ?_) (fun hc26 => ?_) -- cond 4
    ·skip
     try simp only [decide_eq_true_eq, decide_eq_false_iff_not, Bool.not_eq_true', Bool.not_eq_false', Bool.and_eq_true, Bool.not_eq_true, Bool.not_eq_false] at hc26
     have hu1 := hc26
     refine wp_seq ?_
     refine reg ?_
     refine plain (y_assign rfl rfl) rfl rfl rfl H25 ?_
     clear H25; intro a27 H27
     refine fin ?_
     refine then_n ?_
     refine wp_ret ?_
     refine then_r ?_
     -- return 4
     refine ret1 rfl H27 rfl ?_
     first | (have hz9 := hFA2; rw [Tree.bl_take] at hFA2; have hbl2 : (Tree.bl X).take ((Tree.bl X).length - under.toNat) = (Tree.bl X).take (X.length - under.toNat) := (by rw [hbl]); have hz0 := Tree.turn_good (c := (⟨Tree.bl X, dp, de⟩ : Tree.Chain)) (u := under) (bs := Tree.itl bs) (salt := salt) (by omega) (by rw [hhe]; omega) (by rw [hil]; omega) (by rw [hhe, hil]; omega) (by dsimp only; rw [hbl2]; exact hFA2); have hz1 := Tree.turnX_ok (Y := X) (u := under) (dp := dp) (de := de) (bs := bs) (salt := salt) (by rw [hz0]); rw [hz0, hz1]; rw [hall] at H27; have hk0 : ¬ k = 0 := (by omega); rw [Tree.rowIf_pos hk0] at H27; exact ⟨_, _, rfl, ⟨_, rfl, rfl⟩, (H27.only (is := [It.row 26 35 (.slice A3 (Tree.growsX (X.take (X.length - under.toNat)) salt bs).length c3) (Tree.growsX (X.take (X.length - under.toNat)) salt bs).length (Inbox.bc (Tree.growsX (X.take (X.length - under.toNat)) salt bs)), It.blk rx 56 [(.slice A3 (Tree.growsX (X.take (X.length - under.toNat)) salt bs).length c3), i64 dp, i64 (max de under)]]) (.cons PP (.cons PP (.nil _)))).sep⟩) | (have hz9 := hw1; have hz1 := Tree.far_fall hF (by rw [hil]; omega) (by rw [Tree.itl_at hkl, ← Tree.grow_err2]; exact hw1); rw [Tree.itl_at hkl, ← Tree.grow_err2, Tree.bl_take] at hz1; have hbl2 : (Tree.bl X).take ((Tree.bl X).length - under.toNat) = (Tree.bl X).take (X.length - under.toNat) := (by rw [hbl]); have hz0 := Tree.turn_bad (c := (⟨Tree.bl X, dp, de⟩ : Tree.Chain)) (u := under) (bs := Tree.itl bs) (salt := salt) (by omega) (by rw [hhe]; omega) (by rw [hil]; omega) (by rw [hhe, hil]; omega) (by dsimp only; rw [hbl2, hz1]; exact hw1); dsimp only at hz0; rw [hbl2, hz1] at hz0; have hz3 := Tree.turnX_no (Y := X) (u := under) (dp := dp) (de := de) (bs := bs) (salt := salt) (by rw [hz0]; exact hw1); rw [hz0, hz3]; exact ⟨_, _, rfl, ⟨_, rfl, rfl⟩, (H27.only (is := [It.row 26 35 (.slice A1 X.length c1) X.length (Inbox.bc X), It.blk rx 56 [(.slice A1 X.length c1), i64 dp, i64 de]]) (.cons PP (.cons PP (.nil _)))).sep⟩) | (have hz0 := Tree.turn_neg (c := (⟨Tree.bl X, dp, de⟩ : Tree.Chain)) (u := under) (bs := Tree.itl bs) (salt := salt) hn1; have hz1 := Tree.turnX_no (Y := X) (u := under) (dp := dp) (de := de) (bs := bs) (salt := salt) (by rw [hz0]; dsimp only; omega); rw [hz0, hz1]; exact ⟨_, _, rfl, ⟨_, rfl, rfl⟩, (H27.only (is := [It.row 26 35 (.slice A1 X.length c1) X.length (Inbox.bc X), It.blk rx 56 [(.slice A1 X.length c1), i64 dp, i64 de]]) (.cons PP (.cons PP (.nil _)))).sep⟩) | (have hz0 := Tree.turn_deepR (c := (⟨Tree.bl X, dp, de⟩ : Tree.Chain)) (u := under) (bs := Tree.itl bs) (salt := salt) hn2 (by rw [hhe]; omega); have hz1 := Tree.turnX_no (Y := X) (u := under) (dp := dp) (de := de) (bs := bs) (salt := salt) (by rw [hz0]; dsimp only; omega); rw [hz0, hz1]; exact ⟨_, _, rfl, ⟨_, rfl, rfl⟩, (H27.only (is := [It.row 26 35 (.slice A1 X.length c1) X.length (Inbox.bc X), It.blk rx 56 [(.slice A1 X.length c1), i64 dp, i64 de]]) (.cons PP (.cons PP (.nil _)))).sep⟩) | (have hz0 := Tree.turn_few (c := (⟨Tree.bl X, dp, de⟩ : Tree.Chain)) (u := under) (bs := Tree.itl bs) (salt := salt) hn2 (by rw [hhe]; omega) (by rw [hil]; omega); have hz1 := Tree.turnX_no (Y := X) (u := under) (dp := dp) (de := de) (bs := bs) (salt := salt) (by rw [hz0]; dsimp only; omega); rw [hz0, hz1]; exact ⟨_, _, rfl, ⟨_, rfl, rfl⟩, (H27.only (is := [It.row 26 35 (.slice A1 X.length c1) X.length (Inbox.bc X), It.blk rx 56 [(.slice A1 X.length c1), i64 dp, i64 de]]) (.cons PP (.cons PP (.nil _)))).sep⟩) | (have hz0 := Tree.turn_full (c := (⟨Tree.bl X, dp, de⟩ : Tree.Chain)) (u := under) (bs := Tree.itl bs) (salt := salt) hn2 (by rw [hhe]; omega) (by rw [hil]; omega) (by rw [hhe, hil]; omega); have hz1 := Tree.turnX_no (Y := X) (u := under) (dp := dp) (de := de) (bs := bs) (salt := salt) (by rw [hz0]; dsimp only; omega); rw [hz0, hz1]; exact ⟨_, _, rfl, ⟨_, rfl, rfl⟩, (H27.only (is := [It.row 26 35 (.slice A1 X.length c1) X.length (Inbox.bc X), It.blk rx 56 [(.slice A1 X.length c1), i64 dp, i64 de]]) (.cons PP (.cons PP (.nil _)))).sep⟩)
    ·skip
     try simp only [decide_eq_true_eq, decide_eq_false_iff_not, Bool.not_eq_true', Bool.not_eq_false', Bool.and_eq_true, Bool.not_eq_true, Bool.not_eq_false] at hc26
     have hu2 := hc26
     refine wp_skip ?_
     refine then_n ?_
     refine wp_seq ?_
     refine qreg (by kernel_rfl) (by kernel_rfl) H25 ?_
     have F28 := H25.fr
     clear H25
     refine qplain (y_move rfl rfl) rfl rfl rfl F28 ?_
     clear F28; intro a29 H29
     refine qplain (y_nilCheck rfl rfl) rfl rfl rfl H29 ?_
     clear H29; intro a30 H30
     refine qplain (y_fieldB rfl z_field56_0 rfl (by first | (simp only [Nat.zero_add, Nat.add_zero, Nat.reduceAdd]; rfl) | rfl)) rfl rfl rfl H30 ?_
     clear H30; intro a31 H31
     refine qplain (y_loadB rfl z_agg36 rfl MM q_ix_c3_0) rfl rfl rfl H31 ?_
     clear H31; intro a32 H32
     refine qplain (y_move rfl rfl) rfl rfl rfl H32 ?_
     clear H32; intro a33 H33
     refine qplain (y_nilCheck rfl rfl) rfl rfl rfl H33 ?_
     clear H33; intro a34 H34
     refine qplain (y_fieldB rfl z_field56_0 rfl (by first | (simp only [Nat.zero_add, Nat.add_zero, Nat.reduceAdd]; rfl) | rfl)) rfl rfl rfl H34 ?_
     clear H34; intro a35 H35
     refine qplain (y_loadB rfl z_agg36 rfl MM q_ix_c3_0) rfl rfl rfl H35 ?_
     clear H35; intro a36 H36
     refine qplain (y_len rfl Tryd.underlying36 rfl) rfl rfl rfl H36 ?_
     clear H36; intro a37 H37
     refine qplain (y_move rfl rfl) rfl rfl rfl H37 ?_
     clear H37; intro a38 H38
     refine qplain (y_sub rfl rfl rfl (by first | exact w64 (by omega) (by omega) | rfl)) rfl rfl rfl H38 ?_
     clear H38; intro a39 H39
     refine qplain (y_slS_hi rfl Tryd.underlying36 z_size26 rfl rfl (by omega) (by omega) (by omega)) rfl rfl rfl H39 ?_
     clear H39; intro a40 H40
     refine qplain (y_assign rfl rfl) rfl rfl rfl H40 ?_
     clear H40; intro a41 H41
     refine qfin H41 ?_
     clear H41; intro wx42 H42
     refine then_n ?_
     refine wp_seq ?_
     refine wp_seq ?_
     refine reg ?_
     refine plain (y_assign rfl rfl) rfl rfl rfl H42 ?_
     clear H42; intro a43 H43
     refine fin ?_
     refine then_n ?_
     refine wp_block ?_
     have hn : ((X.length : Int) - under).toNat = X.length - under.toNat := by omega
     rw [hn] at H43
     have hT0 : (X.take (X.length - under.toNat)).length = X.length - under.toNat := by rw [List.length_take]; omega
     rw [← hT0] at H43
     replace H43 := Tree.St.addIf (E := 26) (v := .slice A1 (X.take (X.length - under.toNat)).length c1) (Y := (Tree.growsX (X.take (X.length - under.toNat)) salt (bs.take 0))) H43
     refine loop (ι := Nat × Value) (fun y => [(0, .pointer (some ⟨rx, 0, none⟩)), (1, .int .i64 under), (2, .slice D bs.length cd), (3, .int .i64 salt), (8, .int .i64 0), (9, y.2), (10, .int .i64 (y.1 : Int))]) (fun y => (Tree.rowIf 26 y.1 y.2 (Tree.growsX (X.take (X.length - under.toNat)) salt (bs.take y.1)) :: [It.row 26 35 (.slice A1 X.length c1) X.length (Inbox.bc X), It.blk rx 56 [(.slice A1 X.length c1), i64 dp, i64 de]])) (fun y => y.1 ≤ bs.length ∧ (Tree.grows (Tree.bl (X.take (X.length - under.toNat))) salt (Tree.itl (bs.take y.1))).2 = 0 ∧ (y.1 = 0 → y.2 = .slice A1 (X.take (X.length - under.toNat)).length c1)) (fun y => bs.length - y.1) ((0, (.slice A1 (X.take (X.length - under.toNat)).length c1 : Value))) ⟨Nat.zero_le _, rfl, fun _ => rfl⟩ (H43.weak ⟨rfl, rfl, rfl, rfl, rfl, rfl, rfl, trivial⟩ rfl) ?_
     clear H43; intro y a44 wx44 hok44 H44
     obtain ⟨k, vy⟩ := y
     dsimp only at hok44 H44
     obtain ⟨hk, hG0, hv0⟩ := hok44
     have hF := Tree.far_x hG0
     have hYl := Tree.far_len hF (by rw [hil]; exact hk)
     rw [Tree.bl_len, hT0] at hYl
     have hY : Tree.Wfs (Tree.growsX (X.take (X.length - under.toNat)) salt (bs.take k)) := Tree.growsX_all _ _ (hX.take _) (fun q hq L hh => Tree.ofIA_w0 (hbs q (List.mem_of_mem_take hq)) hh)
     have hYI : ∀ y ∈ (Tree.growsX (X.take (X.length - under.toNat)) salt (bs.take k)), Tree.Keeps [It.row 26 35 (.slice A1 X.length c1) X.length (Inbox.bc X), It.blk rx 56 [(.slice A1 X.length c1), i64 dp, i64 de]] w y.A (Inbox.ic y.b.items) := Tree.growsX_all _ _ (fun y hy => hI y (List.mem_of_mem_take hy)) (fun q hq L hh => hK2 q (List.mem_of_mem_take hq))
     obtain ⟨A3, c3, rfl, hRY⟩ : ∃ A3 c3, vy = .slice A3 (Tree.growsX (X.take (X.length - under.toNat)) salt (bs.take k)).length c3 ∧ ∀ w', Sep (fps [It.row 26 35 (.slice A1 X.length c1) X.length (Inbox.bc X), It.blk rx 56 [(.slice A1 X.length c1), i64 dp, i64 de]]) w w' (Tree.rowIf 26 k vy (Tree.growsX (X.take (X.length - under.toNat)) salt (bs.take k)) :: [It.row 26 35 (.slice A1 X.length c1) X.length (Inbox.bc X), It.blk rx 56 [(.slice A1 X.length c1), i64 dp, i64 de]]) → Rd w' A3 (Inbox.bc (Tree.growsX (X.take (X.length - under.toNat)) salt (bs.take k))) := by
      by_cases h00 : k = 0
      ·subst h00; exact ⟨A1, c1, hv0 rfl, fun w' hs' => Tree.rd_pre hX (rd_row MM w' hs') _⟩
      ·obtain ⟨A3, c3, e, hq⟩ := Tree.rowIf_rd (w := _) h00 (H44.sep.all _ List.mem_cons_self); exact ⟨A3, c3, e, fun w' hs' => by obtain ⟨A4, c4, e4, hq4⟩ := Tree.rowIf_rd h00 (hs'.all _ List.mem_cons_self); rw [e] at e4; injection e4 with e5; rw [e5]; exact hq4⟩
     refine wp_seq ?_
     refine wp_seq ?_
     refine reg ?_
     refine plain (y_move rfl rfl) rfl rfl rfl H44 ?_
     clear H44; intro a45 H45
     refine plain (y_move rfl rfl) rfl rfl rfl H45 ?_
     clear H45; intro a46 H46
     refine plain (y_len rfl Tryd.underlying37 rfl) rfl rfl rfl H46 ?_
     clear H46; intro a47 H47
     refine plain (y_lss rfl rfl rfl) rfl rfl rfl H47 ?_
     clear H47; intro a48 H48
     refine fin ?_
     refine then_n ?_
     refine cnd H48 rfl (fun hc49 => ?_) (fun hc49 => ?_) -- cond 5
     ·skip
      try simp only [decide_eq_true_eq, decide_eq_false_iff_not, Bool.not_eq_true', Bool.not_eq_false', Bool.and_eq_true, Bool.not_eq_true, Bool.not_eq_false] at hc49
      refine wp_skip ?_
      refine then_n ?_
      refine wp_seq ?_
      refine wp_block ?_
      refine wp_seq ?_
      have hkl : k < bs.length := by omega
      have hbm := Inbox.memD Tree.IA.zero hkl
      have hwq := hbs _ hbm
      refine reg ?_
      refine plain (y_move rfl rfl) rfl rfl rfl H48 ?_
      clear H48; intro a50 H50
      refine plain (y_move rfl rfl) rfl rfl rfl H50 ?_
      clear H50; intro a51 H51
      refine plain (y_move rfl rfl) rfl rfl rfl H51 ?_
      clear H51; intro a52 H52
      refine plain (y_ixR rfl Tryd.underlying37 z_size24 rfl rfl (by omega) (by omega) (fun w' hs' => hK.at_ hs') (by rw [Tree.iac_len]; omega)) rfl rfl rfl H52 ?_
      clear H52; intro a53 H53
      refine plain (y_loadR rfl z_agg24 rfl (fun w' hs' => hK.at_ hs') (by rw [Nat.mul_one]; exact Tree.iac_at hkl)) rfl rfl rfl H53 ?_
      clear H53; intro a54 H54
      refine plain (y_move rfl rfl) rfl rfl rfl H54 ?_
      clear H54; intro a55 H55
      refine st_call rfl z_call59 rfl rfl rfl rfl H55 (rgrow (Tree.growsX (X.take (X.length - under.toNat)) salt (bs.take k)) hY (by omega) (by omega) A3 c3 (bs.getD k Tree.IA.zero) hwq salt hsa (hRY _ H55.sep) (fun y hy => (hYI y hy).at_ H55.sep) ((hK2 _ hbm).at_ H55.sep)) ?_
      clear H55; intro v56 l56 a56 wx56 hf56 H56
      obtain ⟨u56, rfl, rfl⟩ := hf56
      simp only [List.cons_append, List.nil_append] at H56
      obtain ⟨A5, c5, rfl, hR5, hm5⟩ := row_shape (v := u56) H56.sep MM
      refine plain (y_move rfl rfl) rfl rfl rfl H56 ?_
      clear H56; intro a57 H57
      refine plain (y_extract rfl rfl rfl) rfl rfl rfl H57 ?_
      clear H57; intro a58 H58
      refine plain (y_extract rfl rfl rfl) rfl rfl rfl H58 ?_
      clear H58; intro a59 H59
      refine plain (y_extract rfl rfl rfl) rfl rfl rfl H59 ?_
      clear H59; intro a60 H60
      refine st_alloc rfl z_zeroN23 rfl rfl rfl H60 ?_
      clear H60; intro b61 a61 wx61 H61
      refine plain (y_assign rfl rfl) rfl rfl rfl H61 ?_
      clear H61; intro a62 H62
      refine st_storeN rfl z_size23 rfl rfl (agg_cells _) UU q_one_b32 (q_len_b32 (by first | assumption | exact Tree.hash_len _ | exact Tree.grow_h32 _ _ _)) (q_len_b32 (by first | assumption | exact Tree.hash_len _ | exact Tree.grow_h32 _ _ _)) (q_spl_b32_0_b32 (by first | assumption | exact Tree.hash_len _ | exact Tree.grow_h32 _ _ _) (by first | assumption | exact Tree.hash_len _ | exact Tree.grow_h32 _ _ _)) (by decide) rfl rfl H62 ?_
      clear H62; intro wx63 H63
      refine plain (y_assign rfl rfl) rfl rfl rfl H63 ?_
      clear H63; intro a64 H64
      refine fin ?_
      refine then_n ?_
      refine wp_seq ?_
      refine wp_seq ?_
      refine reg ?_
      refine plain (y_move rfl rfl) rfl rfl rfl H64 ?_
      clear H64; intro a65 H65
      refine plain (y_neq rfl rfl rfl) rfl rfl rfl H65 ?_
      clear H65; intro a66 H66
      refine fin ?_
      refine then_n ?_
      refine cnd H66 rfl (fun hc67 => ?_) (fun hc67 => ?_) -- cond 6
      ·skip
       try simp only [decide_eq_true_eq, decide_eq_false_iff_not, Bool.not_eq_true', Bool.not_eq_false', Bool.and_eq_true, Bool.not_eq_true, Bool.not_eq_false] at hc67
       have hw1 := hc67
       refine wp_seq ?_
       refine reg ?_
       refine plain (y_move rfl rfl) rfl rfl rfl H66 ?_
       clear H66; intro a68 H68
       refine plain (y_assign rfl rfl) rfl rfl rfl H68 ?_
       clear H68; intro a69 H69
       refine fin ?_
       refine then_n ?_
       refine wp_ret ?_
       refine then_r ?_
       refine inb_r ?_
       refine then_r ?_
       refine then_r ?_
       refine inb_r ?_
       refine then_r ?_
       -- return 5
       refine ret1 rfl H69 rfl ?_
       first | (have hz9 := hFA2; rw [Tree.bl_take] at hFA2; have hbl2 : (Tree.bl X).take ((Tree.bl X).length - under.toNat) = (Tree.bl X).take (X.length - under.toNat) := (by rw [hbl]); have hz0 := Tree.turn_good (c := (⟨Tree.bl X, dp, de⟩ : Tree.Chain)) (u := under) (bs := Tree.itl bs) (salt := salt) (by omega) (by rw [hhe]; omega) (by rw [hil]; omega) (by rw [hhe, hil]; omega) (by dsimp only; rw [hbl2]; exact hFA2); have hz1 := Tree.turnX_ok (Y := X) (u := under) (dp := dp) (de := de) (bs := bs) (salt := salt) (by rw [hz0]); rw [hz0, hz1]; rw [hall] at H69; have hk0 : ¬ k = 0 := (by omega); rw [Tree.rowIf_pos hk0] at H69; exact ⟨_, _, rfl, ⟨_, rfl, rfl⟩, (H69.only (is := [It.row 26 35 (.slice A3 (Tree.growsX (X.take (X.length - under.toNat)) salt bs).length c3) (Tree.growsX (X.take (X.length - under.toNat)) salt bs).length (Inbox.bc (Tree.growsX (X.take (X.length - under.toNat)) salt bs)), It.blk rx 56 [(.slice A3 (Tree.growsX (X.take (X.length - under.toNat)) salt bs).length c3), i64 dp, i64 (max de under)]]) (.cons PP (.cons PP (.nil _)))).sep⟩) | (have hz9 := hw1; have hz1 := Tree.far_fall hF (by rw [hil]; omega) (by rw [Tree.itl_at hkl, ← Tree.grow_err2]; exact hw1); rw [Tree.itl_at hkl, ← Tree.grow_err2, Tree.bl_take] at hz1; have hbl2 : (Tree.bl X).take ((Tree.bl X).length - under.toNat) = (Tree.bl X).take (X.length - under.toNat) := (by rw [hbl]); have hz0 := Tree.turn_bad (c := (⟨Tree.bl X, dp, de⟩ : Tree.Chain)) (u := under) (bs := Tree.itl bs) (salt := salt) (by omega) (by rw [hhe]; omega) (by rw [hil]; omega) (by rw [hhe, hil]; omega) (by dsimp only; rw [hbl2, hz1]; exact hw1); dsimp only at hz0; rw [hbl2, hz1] at hz0; have hz3 := Tree.turnX_no (Y := X) (u := under) (dp := dp) (de := de) (bs := bs) (salt := salt) (by rw [hz0]; exact hw1); rw [hz0, hz3]; exact ⟨_, _, rfl, ⟨_, rfl, rfl⟩, (H69.only (is := [It.row 26 35 (.slice A1 X.length c1) X.length (Inbox.bc X), It.blk rx 56 [(.slice A1 X.length c1), i64 dp, i64 de]]) (.cons PP (.cons PP (.nil _)))).sep⟩) | (have hz0 := Tree.turn_neg (c := (⟨Tree.bl X, dp, de⟩ : Tree.Chain)) (u := under) (bs := Tree.itl bs) (salt := salt) hn1; have hz1 := Tree.turnX_no (Y := X) (u := under) (dp := dp) (de := de) (bs := bs) (salt := salt) (by rw [hz0]; dsimp only; omega); rw [hz0, hz1]; exact ⟨_, _, rfl, ⟨_, rfl, rfl⟩, (H69.only (is := [It.row 26 35 (.slice A1 X.length c1) X.length (Inbox.bc X), It.blk rx 56 [(.slice A1 X.length c1), i64 dp, i64 de]]) (.cons PP (.cons PP (.nil _)))).sep⟩) | (have hz0 := Tree.turn_deepR (c := (⟨Tree.bl X, dp, de⟩ : Tree.Chain)) (u := under) (bs := Tree.itl bs) (salt := salt) hn2 (by rw [hhe]; omega); have hz1 := Tree.turnX_no (Y := X) (u := under) (dp := dp) (de := de) (bs := bs) (salt := salt) (by rw [hz0]; dsimp only; omega); rw [hz0, hz1]; exact ⟨_, _, rfl, ⟨_, rfl, rfl⟩, (H69.only (is := [It.row 26 35 (.slice A1 X.length c1) X.length (Inbox.bc X), It.blk rx 56 [(.slice A1 X.length c1), i64 dp, i64 de]]) (.cons PP (.cons PP (.nil _)))).sep⟩) | (have hz0 := Tree.turn_few (c := (⟨Tree.bl X, dp, de⟩ : Tree.Chain)) (u := under) (bs := Tree.itl bs) (salt := salt) hn2 (by rw [hhe]; omega) (by rw [hil]; omega); have hz1 := Tree.turnX_no (Y := X) (u := under) (dp := dp) (de := de) (bs := bs) (salt := salt) (by rw [hz0]; dsimp only; omega); rw [hz0, hz1]; exact ⟨_, _, rfl, ⟨_, rfl, rfl⟩, (H69.only (is := [It.row 26 35 (.slice A1 X.length c1) X.length (Inbox.bc X), It.blk rx 56 [(.slice A1 X.length c1), i64 dp, i64 de]]) (.cons PP (.cons PP (.nil _)))).sep⟩) | (have hz0 := Tree.turn_full (c := (⟨Tree.bl X, dp, de⟩ : Tree.Chain)) (u := under) (bs := Tree.itl bs) (salt := salt) hn2 (by rw [hhe]; omega) (by rw [hil]; omega) (by rw [hhe, hil]; omega); have hz1 := Tree.turnX_no (Y := X) (u := under) (dp := dp) (de := de) (bs := bs) (salt := salt) (by rw [hz0]; dsimp only; omega); rw [hz0, hz1]; exact ⟨_, _, rfl, ⟨_, rfl, rfl⟩, (H69.only (is := [It.row 26 35 (.slice A1 X.length c1) X.length (Inbox.bc X), It.blk rx 56 [(.slice A1 X.length c1), i64 dp, i64 de]]) (.cons PP (.cons PP (.nil _)))).sep⟩)
      ·skip
       try simp only [decide_eq_true_eq, decide_eq_false_iff_not, Bool.not_eq_true', Bool.not_eq_false', Bool.and_eq_true, Bool.not_eq_true, Bool.not_eq_false] at hc67
       have hw2 := Decidable.not_not.1 hc67
       refine wp_skip ?_
       refine then_n ?_
       have hw3 := Tree.grow_fine hw2
       rw [Tree.growX_ok hw3] at H66
       refine reg ?_
       refine plain (y_move rfl rfl) rfl rfl rfl H66 ?_
       clear H66; intro a70 H70
       refine plain (y_assign rfl rfl) rfl rfl rfl H70 ?_
       clear H70; intro a71 H71
       refine fin ?_
       refine inb_n ?_
       refine then_n ?_
       refine reg ?_
       refine plain (y_move rfl rfl) rfl rfl rfl H71 ?_
       clear H71; intro a72 H72
       refine plain (y_add rfl rfl rfl (by first | exact w64 (by omega) (by omega) | rfl)) rfl rfl rfl H72 ?_
       clear H72; intro a73 H73
       refine plain (y_assign rfl rfl) rfl rfl rfl H73 ?_
       clear H73; intro a74 H74
       refine fin ?_
       refine then_n ?_
       have hgo := Tree.growsX_step hkl hG0 hw3
       refine ⟨(k + 1, .slice A5 ((Tree.growsX (X.take (X.length - under.toNat)) salt (bs.take k)) ++ [Tree.ofIA (Tree.bl (Tree.growsX (X.take (X.length - under.toNat)) salt (bs.take k))) (bs.getD k Tree.IA.zero) salt]).length c5), by dsimp only; omega, ⟨by dsimp only; omega, ?_, fun h => absurd h (by omega)⟩, ?_⟩
       ·dsimp only; rw [Tree.itl_take, Oct.take_succ [] (by rw [hil]; exact hkl), ← Tree.itl_take, Tree.grows_app salt _ _ _ hG0, Tree.itl_at hkl, ← Tree.growsX_is]; rw [Tree.grows_one (by rw [Tree.grow_ok hw3])]
       dsimp only
       rw [hgo, Tree.rowIf_succ]
       exact ((H74.only (is := [It.row 26 35 (.slice A5 ((Tree.growsX (X.take (X.length - under.toNat)) salt (bs.take k)) ++ [Tree.ofIA (Tree.bl (Tree.growsX (X.take (X.length - under.toNat)) salt (bs.take k))) (bs.getD k Tree.IA.zero) salt]).length c5) ((Tree.growsX (X.take (X.length - under.toNat)) salt (bs.take k)) ++ [Tree.ofIA (Tree.bl (Tree.growsX (X.take (X.length - under.toNat)) salt (bs.take k))) (bs.getD k Tree.IA.zero) salt]).length (Inbox.bc ((Tree.growsX (X.take (X.length - under.toNat)) salt (bs.take k)) ++ [Tree.ofIA (Tree.bl (Tree.growsX (X.take (X.length - under.toNat)) salt (bs.take k))) (bs.getD k Tree.IA.zero) salt])), It.row 26 35 (.slice A1 X.length c1) X.length (Inbox.bc X), It.blk rx 56 [(.slice A1 X.length c1), i64 dp, i64 de]]) (.cons PP (.cons PP (.cons PP (.nil _)))))).weak ⟨rfl, rfl, rfl, rfl, rfl, rfl, fi rfl (by omega), trivial⟩ rfl
     ·skip
      try simp only [decide_eq_true_eq, decide_eq_false_iff_not, Bool.not_eq_true', Bool.not_eq_false', Bool.and_eq_true, Bool.not_eq_true, Bool.not_eq_false] at hc49
      refine wp_exit ?_
      refine then_x ?_
      refine then_x ?_
      refine inb_hit ?_
      refine then_n ?_
      refine wp_seq ?_
      have hFA := Tree.far_all hF (by rw [hil]; omega)
      have hFA2 := hFA.2
      have hall : bs.take k = bs := List.take_of_length_le (by omega)
      refine reg ?_
      refine plain (y_move rfl rfl) rfl rfl rfl H48 ?_
      clear H48; intro a75 H75
      refine plain (y_move rfl rfl) rfl rfl rfl H75 ?_
      clear H75; intro a76 H76
      refine plain (y_nilCheck rfl rfl) rfl rfl rfl H76 ?_
      clear H76; intro a77 H77
      refine plain (y_fieldB rfl z_field56_0 rfl (by first | (simp only [Nat.zero_add, Nat.add_zero, Nat.reduceAdd]; rfl) | rfl)) rfl rfl rfl H77 ?_
      clear H77; intro a78 H78
      refine st_store1N rfl z_size36 rfl rfl rfl UU q_len_c3 q_set_c3_0 (by decide) rfl rfl H78 ?_
      clear H78; intro wx79 H79
      refine fin ?_
      refine then_n ?_
      refine wp_seq ?_
      refine reg ?_
      refine plain (y_move rfl rfl) rfl rfl rfl H79 ?_
      clear H79; intro a80 H80
      refine plain (y_move rfl rfl) rfl rfl rfl H80 ?_
      clear H80; intro a81 H81
      refine plain (y_nilCheck rfl rfl) rfl rfl rfl H81 ?_
      clear H81; intro a82 H82
      refine plain (y_fieldB rfl z_field56_2 rfl (by first | (simp only [Nat.zero_add, Nat.add_zero, Nat.reduceAdd]; rfl) | rfl)) rfl rfl rfl H82 ?_
      clear H82; intro a83 H83
      refine plain (y_loadB rfl z_agg3 rfl MM q_ix_c3_2) rfl rfl rfl H83 ?_
      clear H83; intro a84 H84
      refine plain (y_move rfl rfl) rfl rfl rfl H84 ?_
      clear H84; intro a85 H85
      refine plain (y_max2 rfl rfl rfl) rfl rfl rfl H85 ?_
      clear H85; intro a86 H86
      refine plain (y_nilCheck rfl rfl) rfl rfl rfl H86 ?_
      clear H86; intro a87 H87
      refine plain (y_fieldB rfl z_field56_2 rfl (by first | (simp only [Nat.zero_add, Nat.add_zero, Nat.reduceAdd]; rfl) | rfl)) rfl rfl rfl H87 ?_
      clear H87; intro a88 H88
      refine st_store1N rfl z_size3 rfl rfl rfl UU q_len_c3 q_set_c3_2 (by decide) rfl rfl H88 ?_
      clear H88; intro wx89 H89
      refine fin ?_
      refine then_n ?_
      refine wp_seq ?_
      refine reg ?_
      refine plain (y_assign rfl rfl) rfl rfl rfl H89 ?_
      clear H89; intro a90 H90
      refine fin ?_
      refine then_n ?_
      refine wp_ret ?_
      -- return 6
      refine ret1 rfl H90 rfl ?_
      first | (have hz9 := hFA2; rw [Tree.bl_take] at hFA2; have hbl2 : (Tree.bl X).take ((Tree.bl X).length - under.toNat) = (Tree.bl X).take (X.length - under.toNat) := (by rw [hbl]); have hz0 := Tree.turn_good (c := (⟨Tree.bl X, dp, de⟩ : Tree.Chain)) (u := under) (bs := Tree.itl bs) (salt := salt) (by omega) (by rw [hhe]; omega) (by rw [hil]; omega) (by rw [hhe, hil]; omega) (by dsimp only; rw [hbl2]; exact hFA2); have hz1 := Tree.turnX_ok (Y := X) (u := under) (dp := dp) (de := de) (bs := bs) (salt := salt) (by rw [hz0]); rw [hz0, hz1]; rw [hall] at H90; have hk0 : ¬ k = 0 := (by omega); rw [Tree.rowIf_pos hk0] at H90; exact ⟨_, _, rfl, ⟨_, rfl, rfl⟩, (H90.only (is := [It.row 26 35 (.slice A3 (Tree.growsX (X.take (X.length - under.toNat)) salt bs).length c3) (Tree.growsX (X.take (X.length - under.toNat)) salt bs).length (Inbox.bc (Tree.growsX (X.take (X.length - under.toNat)) salt bs)), It.blk rx 56 [(.slice A3 (Tree.growsX (X.take (X.length - under.toNat)) salt bs).length c3), i64 dp, i64 (max de under)]]) (.cons PP (.cons PP (.nil _)))).sep⟩) | (have hz9 := hw1; have hz1 := Tree.far_fall hF (by rw [hil]; omega) (by rw [Tree.itl_at hkl, ← Tree.grow_err2]; exact hw1); rw [Tree.itl_at hkl, ← Tree.grow_err2, Tree.bl_take] at hz1; have hbl2 : (Tree.bl X).take ((Tree.bl X).length - under.toNat) = (Tree.bl X).take (X.length - under.toNat) := (by rw [hbl]); have hz0 := Tree.turn_bad (c := (⟨Tree.bl X, dp, de⟩ : Tree.Chain)) (u := under) (bs := Tree.itl bs) (salt := salt) (by omega) (by rw [hhe]; omega) (by rw [hil]; omega) (by rw [hhe, hil]; omega) (by dsimp only; rw [hbl2, hz1]; exact hw1); dsimp only at hz0; rw [hbl2, hz1] at hz0; have hz3 := Tree.turnX_no (Y := X) (u := under) (dp := dp) (de := de) (bs := bs) (salt := salt) (by rw [hz0]; exact hw1); rw [hz0, hz3]; exact ⟨_, _, rfl, ⟨_, rfl, rfl⟩, (H90.only (is := [It.row 26 35 (.slice A1 X.length c1) X.length (Inbox.bc X), It.blk rx 56 [(.slice A1 X.length c1), i64 dp, i64 de]]) (.cons PP (.cons PP (.nil _)))).sep⟩) | (have hz0 := Tree.turn_neg (c := (⟨Tree.bl X, dp, de⟩ : Tree.Chain)) (u := under) (bs := Tree.itl bs) (salt := salt) hn1; have hz1 := Tree.turnX_no (Y := X) (u := under) (dp := dp) (de := de) (bs := bs) (salt := salt) (by rw [hz0]; dsimp only; omega); rw [hz0, hz1]; exact ⟨_, _, rfl, ⟨_, rfl, rfl⟩, (H90.only (is := [It.row 26 35 (.slice A1 X.length c1) X.length (Inbox.bc X), It.blk rx 56 [(.slice A1 X.length c1), i64 dp, i64 de]]) (.cons PP (.cons PP (.nil _)))).sep⟩) | (have hz0 := Tree.turn_deepR (c := (⟨Tree.bl X, dp, de⟩ : Tree.Chain)) (u := under) (bs := Tree.itl bs) (salt := salt) hn2 (by rw [hhe]; omega); have hz1 := Tree.turnX_no (Y := X) (u := under) (dp := dp) (de := de) (bs := bs) (salt := salt) (by rw [hz0]; dsimp only; omega); rw [hz0, hz1]; exact ⟨_, _, rfl, ⟨_, rfl, rfl⟩, (H90.only (is := [It.row 26 35 (.slice A1 X.length c1) X.length (Inbox.bc X), It.blk rx 56 [(.slice A1 X.length c1), i64 dp, i64 de]]) (.cons PP (.cons PP (.nil _)))).sep⟩) | (have hz0 := Tree.turn_few (c := (⟨Tree.bl X, dp, de⟩ : Tree.Chain)) (u := under) (bs := Tree.itl bs) (salt := salt) hn2 (by rw [hhe]; omega) (by rw [hil]; omega); have hz1 := Tree.turnX_no (Y := X) (u := under) (dp := dp) (de := de) (bs := bs) (salt := salt) (by rw [hz0]; dsimp only; omega); rw [hz0, hz1]; exact ⟨_, _, rfl, ⟨_, rfl, rfl⟩, (H90.only (is := [It.row 26 35 (.slice A1 X.length c1) X.length (Inbox.bc X), It.blk rx 56 [(.slice A1 X.length c1), i64 dp, i64 de]]) (.cons PP (.cons PP (.nil _)))).sep⟩) | (have hz0 := Tree.turn_full (c := (⟨Tree.bl X, dp, de⟩ : Tree.Chain)) (u := under) (bs := Tree.itl bs) (salt := salt) hn2 (by rw [hhe]; omega) (by rw [hil]; omega) (by rw [hhe, hil]; omega); have hz1 := Tree.turnX_no (Y := X) (u := under) (dp := dp) (de := de) (bs := bs) (salt := salt) (by rw [hz0]; dsimp only; omega); rw [hz0, hz1]; exact ⟨_, _, rfl, ⟨_, rfl, rfl⟩, (H90.only (is := [It.row 26 35 (.slice A1 X.length c1) X.length (Inbox.bc X), It.blk rx 56 [(.slice A1 X.length c1), i64 dp, i64 de]]) (.cons PP (.cons PP (.nil _)))).sep⟩)

end Go.Proofs.YtlhddgkbbdfacaaDoor.C_Rt

set_option linter.unusedVariables false
set_option linter.unusedSimpArgs false
namespace Go.Proofs.YtlhddgkbbdfacaaDoor.C_Do
open Go.Sx Go.RowKit Go.Proofs.YtlhddgkbbdfacaaDoor.C_Block Go.Proofs.YtlhddgkbbdfacaaDoor.C_Sum Go.Proofs.YtlhddgkbbdfacaaDoor.C_Ref Go.Proofs.YtlhddgkbbdfacaaDoor.C_RSum Go.Proofs.YtlhddgkbbdfacaaDoor.C_Num Go.Proofs.YtlhddgkbbdfacaaDoor.C_Lay Go.Proofs.YtlhddgkbbdfacaaDoor.C_Leaf Go.Proofs.YtlhddgkbbdfacaaDoor.C_Item Go.Proofs.YtlhddgkbbdfacaaDoor.C_RefI Go.Proofs.YtlhddgkbbdfacaaDoor.C_Eq Go.Proofs.YtlhddgkbbdfacaaDoor.C_Hash Go.Proofs.YtlhddgkbbdfacaaDoor.C_Nx Go.Proofs.YtlhddgkbbdfacaaDoor.C_Sm Go.Proofs.YtlhddgkbbdfacaaDoor.C_New Go.Proofs.YtlhddgkbbdfacaaDoor.C_Mine Go.Proofs.YtlhddgkbbdfacaaDoor.C_Turn Go.Proofs.YtlhddgkbbdfacaaDoor.C_Has Go.Proofs.YtlhddgkbbdfacaaDoor.C_Blk Go.Proofs.YtlhddgkbbdfacaaDoor.C_Up Go.Proofs.YtlhddgkbbdfacaaDoor.C_Same Go.Proofs.YtlhddgkbbdfacaaDoor.C_Aw Go.Proofs.YtlhddgkbbdfacaaDoor.C_Fw Go.Proofs.YtlhddgkbbdfacaaDoor.C_Ea Go.Proofs.YtlhddgkbbdfacaaDoor.C_Fd Go.Proofs.YtlhddgkbbdfacaaDoor.C_Rc Go.Proofs.YtlhddgkbbdfacaaDoor.C_Rg Go.Proofs.YtlhddgkbbdfacaaDoor.C_Rm Go.Proofs.YtlhddgkbbdfacaaDoor.C_Rt

theorem z_field39_0 : fieldB Tryd.prog 39 0 = some 0 := by kernel_rfl
theorem z_agg3 : aggB Tryd.prog 3 = some false := by kernel_rfl
theorem q_ix_c4_0 {a0 a1 a2 a3 : Value} : (a0 :: a1 :: a2 :: a3 :: [])[0]? = some a0 := ix_0
theorem z_field39_3 : fieldB Tryd.prog 39 3 = some 3 := by kernel_rfl
theorem z_agg37 : aggB Tryd.prog 37 = some false := by kernel_rfl
theorem q_ix_c4_3 {a0 a1 a2 a3 : Value} : (a0 :: a1 :: a2 :: a3 :: [])[3]? = some a3 := (ix_c (o := 2) (ix_c (o := 1) (ix_c (o := 0) ix_0)))
theorem z_field39_2 : fieldB Tryd.prog 39 2 = some 2 := by kernel_rfl
theorem q_ix_c4_2 {a0 a1 a2 a3 : Value} : (a0 :: a1 :: a2 :: a3 :: [])[2]? = some a2 := (ix_c (o := 1) (ix_c (o := 0) ix_0))
theorem z_call14 : callB Tryd.prog 14 = true := by kernel_rfl
theorem z_call13 : callB Tryd.prog 13 = true := by kernel_rfl
theorem z_zeroN23 : zeroL Tryd.prog 23 = some ((List.replicate 32 (0 : UInt8)).map u8) := by kernel_rfl
theorem z_size23 : sizeB Tryd.prog 23 = some 32 := by kernel_rfl
theorem q_one_b32 {t0 : List UInt8} : (t0.map u8).all (·.oneCell') = true := (one_u8 _)
theorem q_len_b32 {t0 : List UInt8} (h0 : t0.length = 32) : (t0.map u8).length = 32 := (len_e (k := 32) h0)
theorem q_spl_b32_0_b32 {t0 : List UInt8} {s0 : List UInt8} (h0 : t0.length = 32) (g0 : s0.length = 32) : spl (t0.map u8) 0 (s0.map u8) = s0.map u8 := (spl_a (z := 32) (len_e (k := 32) h0) (len_e (k := 32) g0))
theorem z_call42 : callB Tryd.prog 42 = true := by kernel_rfl
theorem z_agg23 : aggB Tryd.prog 23 = some true := by kernel_rfl
theorem q_ld_b32_0_32 {t0 : List UInt8} (h0 : t0.length = 32) : ((t0.map u8).drop 0).take 32 = t0.map u8 := (ld_a (len_e (k := 32) h0))
theorem z_size5 : sizeB Tryd.prog 5 = some 1 := by kernel_rfl
theorem z_field39_1 : fieldB Tryd.prog 39 1 = some 1 := by kernel_rfl
theorem q_ix_c4_1 {a0 a1 a2 a3 : Value} : (a0 :: a1 :: a2 :: a3 :: [])[1]? = some a1 := (ix_c (o := 0) ix_0)
theorem z_call16 : callB Tryd.prog 16 = true := by kernel_rfl
theorem z_call15 : callB Tryd.prog 15 = true := by kernel_rfl
theorem z_call43 : callB Tryd.prog 43 = true := by kernel_rfl

set_option maxRecDepth 100000 in
set_option maxHeartbeats 2000000 in
theorem tdo (X Y : List Inbox.BA) (de : Int) (g : Tree.Grown X de) (hY : Tree.Wfs Y) (hXY : Tree.bl Y = Tree.bl X) (dp : Int) (c rx : Nat) (v u vx : Value) (x : Tree.Act) {w : World} (hs : Sep (fps [It.row 26 35 v X.length (Inbox.bc X), It.row 23 32 u X.length (hc (Tree.hashes (Tree.bl X))), It.blk c 77 [v, u, i64 dp, i64 de], (Tree.It.fz X), It.row 26 35 vx Y.length (Inbox.bc Y), It.blk rx 56 [vx, i64 dp, i64 de]]) w w [It.row 26 35 v X.length (Inbox.bc X), It.row 23 32 u X.length (hc (Tree.hashes (Tree.bl X))), It.blk c 77 [v, u, i64 dp, i64 de], (Tree.It.fz X), It.row 26 35 vx Y.length (Inbox.bc Y), It.blk rx 56 [vx, i64 dp, i64 de]]) (hx : Tree.ActK [It.row 26 35 v X.length (Inbox.bc X), It.row 23 32 u X.length (hc (Tree.hashes (Tree.bl X))), It.blk c 77 [v, u, i64 dp, i64 de], (Tree.It.fz X), It.row 26 35 vx Y.length (Inbox.bc Y), It.blk rx 56 [vx, i64 dp, i64 de]] w x) (hI : ∀ y ∈ Y, Tree.Keeps [It.row 26 35 v X.length (Inbox.bc X), It.row 23 32 u X.length (hc (Tree.hashes (Tree.bl X))), It.blk c 77 [v, u, i64 dp, i64 de], (Tree.It.fz X), It.row 26 35 vx Y.length (Inbox.bc Y), It.blk rx 56 [vx, i64 dp, i64 de]] w y.A (Inbox.ic y.b.items)) (hG : Glob 0 Sha.K w) (hz : 0 ∉ fps [It.row 26 35 v X.length (Inbox.bc X), It.row 23 32 u X.length (hc (Tree.hashes (Tree.bl X))), It.blk c 77 [v, u, i64 dp, i64 de], (Tree.It.fz X), It.row 26 35 vx Y.length (Inbox.bc Y), It.blk rx 56 [vx, i64 dp, i64 de]]) : Calls Tryd.prog 24 #[.pointer (some ⟨c, 0, none⟩), .pointer (some ⟨rx, 0, none⟩), .agg (Tree.Act.cells x).toArray] w (Post (fps [It.row 26 35 v X.length (Inbox.bc X), It.row 23 32 u X.length (hc (Tree.hashes (Tree.bl X))), It.blk c 77 [v, u, i64 dp, i64 de], (Tree.It.fz X), It.row 26 35 vx Y.length (Inbox.bc Y), It.blk rx 56 [vx, i64 dp, i64 de]]) w fun r l' => ∃ (X' : List Inbox.BA) (v' u' vx' : Value) (de' : Int), (Tree.Grown X' de' ∧ Tree.bl (Tree.doX Y x) = Tree.bl X') ∧ r = .bool true ∧ l' = [It.row 26 35 v' X'.length (Inbox.bc X'), It.row 23 32 u' X'.length (hc (Tree.hashes (Tree.bl X'))), It.blk c 77 [v', u', i64 dp, i64 de'], (Tree.It.fz X'), It.row 26 35 vx' (Tree.doX Y x).length (Inbox.bc (Tree.doX Y x)), It.blk rx 56 [vx', i64 dp, i64 de']]) := by
 have hZl : Note.Z.length = 32 := Note.Z_len
 have hYl := Tree.len_bl hXY
 have hY0 : 0 < Y.length := by rw [hYl]; exact g.pos
 have hYn : Y.length ≤ 4097 := by rw [hYl]; exact g.len
 have hm32 : ∀ c : Tree.Chain, (Tree.mine c (Tree.q0 x).l x.salt).2.1.length = 32 := fun c => Tree.mine_h32 _ _ _
 have hz4 : 0 ∉ fps [It.row 26 35 v X.length (Inbox.bc X), It.row 23 32 u X.length (hc (Tree.hashes (Tree.bl X))), It.blk c 77 [v, u, i64 dp, i64 de], (Tree.It.fz X), It.row 26 35 vx Y.length (Inbox.bc Y), It.blk rx 56 [vx, i64 dp, i64 de]] → 0 ∉ fps [It.row 26 35 v X.length (Inbox.bc X), It.row 23 32 u X.length (hc (Tree.hashes (Tree.bl X))), It.blk c 77 [v, u, i64 dp, i64 de], (Tree.It.fz X)] := fun h hm => h (by unfold fps at *; rw [List.mem_flatMap] at *; obtain ⟨i, hi, hb⟩ := hm; exact ⟨i, by simp only [List.mem_cons, List.not_mem_nil, or_false] at hi ⊢; rcases hi with h | h | h | h <;> simp [h], hb⟩)
 have lz32 : (List.replicate 32 (0 : UInt8)).length = 32 := List.length_replicate
 refine enterL (args := [.pointer (some ⟨c, 0, none⟩), .pointer (some ⟨rx, 0, none⟩), .agg (Tree.Act.cells x).toArray]) Tryd.func24 rfl rfl (l := [It.row 26 35 v X.length (Inbox.bc X), It.row 23 32 u X.length (hc (Tree.hashes (Tree.bl X))), It.blk c 77 [v, u, i64 dp, i64 de], (Tree.It.fz X), It.row 26 35 vx Y.length (Inbox.bc Y), It.blk rx 56 [vx, i64 dp, i64 de]]) hs ?_
 intro a0 H0
 refine wp_seq ?_
 refine reg ?_
 refine st_box rfl rfl (agg_cells _) rfl rfl rfl H0 ?_
 clear H0; intro b1 a1 wx1 H1
 refine plain (y_assign rfl rfl) rfl rfl rfl H1 ?_
 clear H1; intro a2 H2
 refine fin ?_
 refine then_n ?_
 refine wp_seq ?_
 refine wp_seq ?_
 refine reg ?_
 refine plain (y_fieldB rfl z_field39_0 rfl (by first | (simp only [Nat.zero_add, Nat.add_zero, Nat.reduceAdd]; rfl) | rfl)) rfl rfl rfl H2 ?_
 clear H2; intro a3 H3
 refine plain (y_loadB rfl z_agg3 rfl MM q_ix_c4_0) rfl rfl rfl H3 ?_
 clear H3; intro a4 H4
 refine plain (y_lss rfl rfl rfl) rfl rfl rfl H4 ?_
 clear H4; intro a5 H5
 refine fin ?_
 refine then_n ?_
 refine cnd H5 rfl (fun hc6 => ?_) (fun hc6 => ?_) -- cond 1
 ·skip
  try simp only [decide_eq_true_eq, decide_eq_false_iff_not, Bool.not_eq_true', Bool.not_eq_false', Bool.and_eq_true, Bool.not_eq_true, Bool.not_eq_false] at hc6
  have hk1 := hc6
  refine wp_seq ?_
  refine hreg [It.blk b1 39 (Tree.Act.cells x)] (fun _ h => h.subA) (by kernel_rfl) H5 ?_
  clear H5; intro wx7 H7
  refine htake 0 rfl (by kernel_rfl) (y_move rfl rfl) rfl rfl rfl (fun _ h => h.subA) H7 ?_
  clear H7; intro a8 H8
  refine htake 1 rfl (by kernel_rfl) (y_fieldB rfl z_field39_3 rfl (by first | (simp only [Nat.zero_add, Nat.add_zero, Nat.reduceAdd]; rfl) | rfl)) rfl rfl rfl (fun _ h => h.subA) H8 ?_
  clear H8; intro a9 H9
  refine htake 2 rfl (by kernel_rfl) (y_loadB rfl z_agg37 rfl MM q_ix_c4_3) rfl rfl rfl (fun _ h => h.subA) H9 ?_
  clear H9; intro a10 H10
  refine htake 4 rfl (by kernel_rfl) (y_fieldB rfl z_field39_2 rfl (by first | (simp only [Nat.zero_add, Nat.add_zero, Nat.reduceAdd]; rfl) | rfl)) rfl rfl rfl (fun _ h => h.subA) H10 ?_
  clear H10; intro a11 H11
  refine htake 5 rfl (by kernel_rfl) (y_loadB rfl z_agg3 rfl MM q_ix_c4_2) rfl rfl rfl (fun _ h => h.subA) H11 ?_
  clear H11; intro a12 H12
  refine hgo2 3 10 rfl rfl (by kernel_rfl) ?_ ?_
  ·skip
   refine st_callg rfl z_call14 rfl rfl rfl rfl H12 (lfirst x.D x.cd x.bs (hx.kd.at_ H12.sep)) ?_
   clear H12; intro a13 wx13 H13
   refine hfinA H13.sep ?_
   refine hgo2 6 10 rfl rfl (by kernel_rfl) ?_ ?_
   ·skip
    refine st_callk2 (is := [It.row 26 35 v X.length (Inbox.bc X), It.row 23 32 u X.length (hc (Tree.hashes (Tree.bl X))), It.blk c 77 [v, u, i64 dp, i64 de], (Tree.It.fz X)]) (enters_call rfl z_call13 rfl) rfl rfl rfl H13 (.cons PP (.cons PP (.cons PP (.cons PP (.nil _))))) (fun hs => tmine X g.wf g.pos g.len dp de c v u x.salt hx.wf.salt (Tree.q0 x).A (Tree.q0 x).c (Tree.q0 x).l hx.wf.q0.1.items hx.wf.q0.1.bytes hs (Tree.keeps_sub hx.q0 H13.sep (.cons PP (.cons PP (.cons PP (.cons PP (.nil _)))))) (hG.frm H13.sep.frm hz) (hz4 hz)) ?_
    clear H13; intro v14 l14 a14 wx14 hf14 H14
    obtain ⟨X2, v2, u2, ⟨hX2, hW2⟩, rfl, rfl⟩ := hf14
    simp only [List.cons_append, List.nil_append] at H14
    have hg2 := g.mine hX2 hW2
    refine hfinA H14.sep ?_
    refine htake 7 rfl (by kernel_rfl) (y_move rfl rfl) rfl rfl rfl (fun _ h => h.subA) H14 ?_
    clear H14; intro a15 H15
    refine htake 8 rfl (by kernel_rfl) (y_extract rfl rfl rfl) rfl rfl rfl (fun _ h => h.subA) H15 ?_
    clear H15; intro a16 H16
    refine htake 9 rfl (by kernel_rfl) (y_extract rfl rfl rfl) rfl rfl rfl (fun _ h => h.subA) H16 ?_
    clear H16; intro a17 H17
    refine hgo 10 rfl (by kernel_rfl) ?_
    refine st_alloc rfl z_zeroN23 rfl rfl rfl H17 ?_
    clear H17; intro b18 a18 wx18 H18
    refine hfinA H18.sep ?_
    refine hgo 11 rfl (by kernel_rfl) ?_
    refine st_storeN rfl z_size23 rfl rfl (agg_cells _) UU q_one_b32 (q_len_b32 (by first | assumption | exact Tree.mine_h32 _ _ _)) (q_len_b32 (by first | assumption | exact Tree.mine_h32 _ _ _)) (q_spl_b32_0_b32 (by first | assumption | exact Tree.mine_h32 _ _ _) (by first | assumption | exact Tree.mine_h32 _ _ _)) (by decide) rfl rfl H18 ?_
    clear H18; intro wx19 H19
    refine hfinA H19.sep ?_
    refine htake 12 rfl (by kernel_rfl) (y_assign rfl rfl) rfl rfl rfl (fun _ h => h.subA) H19 ?_
    clear H19; intro a20 H20
    refine hdone (by kernel_rfl) ?_
    refine then_n ?_
    refine wp_seq ?_
    refine hreg [It.blk b1 39 (Tree.Act.cells x)] (fun _ h => h.subA) (by kernel_rfl) H20 ?_
    clear H20; intro wx21 H21
    refine htake 0 rfl (by kernel_rfl) (y_move rfl rfl) rfl rfl rfl (fun _ h => h.subA) H21 ?_
    clear H21; intro a22 H22
    refine htake 1 rfl (by kernel_rfl) (y_fieldB rfl z_field39_3 rfl (by first | (simp only [Nat.zero_add, Nat.add_zero, Nat.reduceAdd]; rfl) | rfl)) rfl rfl rfl (fun _ h => h.subA) H22 ?_
    clear H22; intro a23 H23
    refine htake 2 rfl (by kernel_rfl) (y_loadB rfl z_agg37 rfl MM q_ix_c4_3) rfl rfl rfl (fun _ h => h.subA) H23 ?_
    clear H23; intro a24 H24
    refine htake 4 rfl (by kernel_rfl) (y_fieldB rfl z_field39_2 rfl (by first | (simp only [Nat.zero_add, Nat.add_zero, Nat.reduceAdd]; rfl) | rfl)) rfl rfl rfl (fun _ h => h.subA) H24 ?_
    clear H24; intro a25 H25
    refine htake 5 rfl (by kernel_rfl) (y_loadB rfl z_agg3 rfl MM q_ix_c4_2) rfl rfl rfl (fun _ h => h.subA) H25 ?_
    clear H25; intro a26 H26
    refine hgo2 3 10 rfl rfl (by kernel_rfl) ?_ ?_
    ·skip
     refine st_callg rfl z_call14 rfl rfl rfl rfl H26 (lfirst x.D x.cd x.bs (hx.kd.at_ H26.sep)) ?_
     clear H26; intro a27 wx27 H27
     refine hfinA H27.sep ?_
     refine hgo2 6 10 rfl rfl (by kernel_rfl) ?_ ?_
     ·skip
      refine st_callk2 (is := [It.row 26 35 vx Y.length (Inbox.bc Y), It.blk rx 56 [vx, i64 dp, i64 de]]) (enters_call rfl z_call42 rfl) rfl rfl rfl H27 (.cons PP (.cons PP (.nil _))) (fun hs => rmine Y hY hY0 hYn dp de rx vx (Tree.q0 x) hx.wf.q0.1 x.salt hx.wf.salt hs (fun y hy => (Tree.keeps_sub (hI y hy) H27.sep (.cons PP (.cons PP (.nil _))))) (Tree.keeps_sub hx.q0 H27.sep (.cons PP (.cons PP (.nil _))))) ?_
      clear H27; intro v28 l28 a28 wx28 hf28 H28
      obtain ⟨vx2, rfl, rfl⟩ := hf28
      simp only [List.cons_append, List.nil_append] at H28
      rw [hXY] at H28
      refine hfinA H28.sep ?_
      refine htake 7 rfl (by kernel_rfl) (y_move rfl rfl) rfl rfl rfl (fun _ h => h.subA) H28 ?_
      clear H28; intro a29 H29
      refine htake 8 rfl (by kernel_rfl) (y_extract rfl rfl rfl) rfl rfl rfl (fun _ h => h.subA) H29 ?_
      clear H29; intro a30 H30
      refine htake 9 rfl (by kernel_rfl) (y_extract rfl rfl rfl) rfl rfl rfl (fun _ h => h.subA) H30 ?_
      clear H30; intro a31 H31
      refine hgo 10 rfl (by kernel_rfl) ?_
      refine st_alloc rfl z_zeroN23 rfl rfl rfl H31 ?_
      clear H31; intro b32 a32 wx32 H32
      refine hfinA H32.sep ?_
      refine hgo 11 rfl (by kernel_rfl) ?_
      refine st_storeN rfl z_size23 rfl rfl (agg_cells _) UU q_one_b32 (q_len_b32 (by first | assumption | exact Tree.mine_h32 _ _ _)) (q_len_b32 (by first | assumption | exact Tree.mine_h32 _ _ _)) (q_spl_b32_0_b32 (by first | assumption | exact Tree.mine_h32 _ _ _) (by first | assumption | exact Tree.mine_h32 _ _ _)) (by decide) rfl rfl H32 ?_
      clear H32; intro wx33 H33
      refine hfinA H33.sep ?_
      refine htake 12 rfl (by kernel_rfl) (y_assign rfl rfl) rfl rfl rfl (fun _ h => h.subA) H33 ?_
      clear H33; intro a34 H34
      refine hdone (by kernel_rfl) ?_
      refine then_n ?_
      refine wp_seq ?_
      refine reg ?_
      refine plain (y_loadAB rfl z_agg23 z_size23 rfl MM (q_ld_b32_0_32 (by first | assumption | exact Tree.mine_h32 _ _ _)) (q_len_b32 (by first | assumption | exact Tree.mine_h32 _ _ _))) rfl rfl rfl H34 ?_
      clear H34; intro a35 H35
      refine plain (y_loadAB rfl z_agg23 z_size23 rfl MM (q_ld_b32_0_32 (by first | assumption | exact Tree.mine_h32 _ _ _)) (q_len_b32 (by first | assumption | exact Tree.mine_h32 _ _ _))) rfl rfl rfl H35 ?_
      clear H35; intro a36 H36
      refine plain (y_heql rfl Tryd.eqGuardType23 Tryd.underlying23 Tryd.underlying5 z_size5 rfl rfl (by first | assumption | exact Tree.mine_h32 _ _ _) (by first | assumption | exact Tree.mine_h32 _ _ _)) rfl rfl rfl H36 ?_
      clear H36; intro a37 H37
      refine plain (y_move rfl rfl) rfl rfl rfl H37 ?_
      clear H37; intro a38 H38
      have H40 := H38.know (d := 37) (v := .bool true) rfl ((by first | rfl | exact congrArg Value.bool (decide_eq_true (by first | assumption | rfl | decide | omega))))
      clear H38
      refine plain (y_move rfl rfl) rfl rfl rfl H40 ?_
      clear H40; intro a41 H41
      refine plain (y_move rfl rfl) rfl rfl rfl H41 ?_
      clear H41; intro a42 H42
      refine plain (y_eql rfl rfl rfl) rfl rfl rfl H42 ?_
      clear H42; intro a43 H43
      refine plain (y_pick_t rfl rfl rfl) rfl rfl rfl H43 ?_
      clear H43; intro a44 H44
      refine plain (y_assign rfl rfl) rfl rfl rfl H44 ?_
      clear H44; intro a45 H45
      refine fin ?_
      refine then_n ?_
      refine wp_ret ?_
      refine then_r ?_
      -- return 1
      refine ret1 rfl H45 rfl ?_
      first | (have hz9 := hk1; have hfin := (H45.only (is := [It.row 26 35 v2 X2.length (Inbox.bc X2), It.row 23 32 u2 X2.length (hc (Tree.hashes (Tree.bl X2))), It.blk c 77 [v2, u2, i64 dp, i64 de], (Tree.It.fz X2), It.row 26 35 vx2 (Tree.mineX Y (Tree.q0 x) x.salt).length (Inbox.bc (Tree.mineX Y (Tree.q0 x) x.salt)), It.blk rx 56 [vx2, i64 dp, i64 de]]) (.cons PP (.cons PP (.cons PP (.cons PP (.cons PP (.cons PP (.nil _)))))))); refine ⟨_, _, rfl, ⟨X2, v2, u2, vx2, de, ⟨hg2, (by rw [Tree.doX_mine hk1, Tree.mineX_is Y _ _ dp de, hXY, hX2])⟩, (by first | rfl | exact congrArg Value.bool (decide_eq_true (by first | rfl | assumption))), rfl⟩, ?_⟩; rw [Tree.doX_mine hk1]; exact hfin.sep) | (have hz9 := hk2; have hfin := (H45.only (is := [It.row 26 35 v2 X2.length (Inbox.bc X2), It.row 23 32 u2 X2.length (hc (Tree.hashes (Tree.bl X2))), It.blk c 77 [v2, u2, i64 dp, i64 (Tree.turn (⟨Tree.bl X, dp, de⟩ : Tree.Chain) x.under (Tree.itl (Tree.fewb x)) x.salt).1.deepest], (Tree.It.fz X2), It.row 26 35 vx2 (Tree.turnX Y x.under (Tree.fewb x) x.salt).length (Inbox.bc (Tree.turnX Y x.under (Tree.fewb x) x.salt)), It.blk rx 56 [vx2, i64 dp, i64 (Tree.turn (⟨Tree.bl X, dp, de⟩ : Tree.Chain) x.under (Tree.itl (Tree.fewb x)) x.salt).1.deepest]]) (.cons PP (.cons PP (.cons PP (.cons PP (.cons PP (.cons PP (.nil _)))))))); refine ⟨_, _, rfl, ⟨X2, v2, u2, vx2, _, ⟨hg2, (by rw [Tree.doX_turn hk2, Tree.turnX_is Y _ _ _ dp de, hXY, hX2])⟩, (by first | rfl | exact congrArg Value.bool (decide_eq_true (by first | rfl | assumption))), rfl⟩, ?_⟩; rw [Tree.doX_turn hk2]; exact hfin.sep)
     ·skip
      refine st_alloc rfl z_zeroN23 rfl rfl rfl H27 ?_
      clear H27; intro b46 a46 wx46 H46
      refine hfinA H46.sep ?_
      refine hgo 6 rfl (by kernel_rfl) ?_
      refine st_callk2 (is := [It.row 26 35 vx Y.length (Inbox.bc Y), It.blk rx 56 [vx, i64 dp, i64 de]]) (enters_call rfl z_call42 rfl) rfl rfl rfl H46 (.cons PP (.cons PP (.nil _))) (fun hs => rmine Y hY hY0 hYn dp de rx vx (Tree.q0 x) hx.wf.q0.1 x.salt hx.wf.salt hs (fun y hy => (Tree.keeps_sub (hI y hy) H46.sep (.cons PP (.cons PP (.nil _))))) (Tree.keeps_sub hx.q0 H46.sep (.cons PP (.cons PP (.nil _))))) ?_
      clear H46; intro v47 l47 a47 wx47 hf47 H47
      obtain ⟨vx2, rfl, rfl⟩ := hf47
      simp only [List.cons_append, List.nil_append] at H47
      rw [hXY] at H47
      refine hfinA H47.sep ?_
      refine htake 7 rfl (by kernel_rfl) (y_move rfl rfl) rfl rfl rfl (fun _ h => h.subA) H47 ?_
      clear H47; intro a48 H48
      refine htake 8 rfl (by kernel_rfl) (y_extract rfl rfl rfl) rfl rfl rfl (fun _ h => h.subA) H48 ?_
      clear H48; intro a49 H49
      refine htake 9 rfl (by kernel_rfl) (y_extract rfl rfl rfl) rfl rfl rfl (fun _ h => h.subA) H49 ?_
      clear H49; intro a50 H50
      refine hgo 11 rfl (by kernel_rfl) ?_
      refine st_storeN rfl z_size23 rfl rfl (agg_cells _) UU q_one_b32 (q_len_b32 (by first | assumption | exact Tree.mine_h32 _ _ _)) (q_len_b32 (by first | assumption | exact Tree.mine_h32 _ _ _)) (q_spl_b32_0_b32 (by first | assumption | exact Tree.mine_h32 _ _ _) (by first | assumption | exact Tree.mine_h32 _ _ _)) (by decide) rfl rfl H50 ?_
      clear H50; intro wx51 H51
      refine hfinA H51.sep ?_
      refine htake 12 rfl (by kernel_rfl) (y_assign rfl rfl) rfl rfl rfl (fun _ h => h.subA) H51 ?_
      clear H51; intro a52 H52
      refine hdone (by kernel_rfl) ?_
      refine then_n ?_
      refine wp_seq ?_
      refine reg ?_
      refine plain (y_loadAB rfl z_agg23 z_size23 rfl MM (q_ld_b32_0_32 (by first | assumption | exact Tree.mine_h32 _ _ _)) (q_len_b32 (by first | assumption | exact Tree.mine_h32 _ _ _))) rfl rfl rfl H52 ?_
      clear H52; intro a53 H53
      refine plain (y_loadAB rfl z_agg23 z_size23 rfl MM (q_ld_b32_0_32 (by first | assumption | exact Tree.mine_h32 _ _ _)) (q_len_b32 (by first | assumption | exact Tree.mine_h32 _ _ _))) rfl rfl rfl H53 ?_
      clear H53; intro a54 H54
      refine plain (y_heql rfl Tryd.eqGuardType23 Tryd.underlying23 Tryd.underlying5 z_size5 rfl rfl (by first | assumption | exact Tree.mine_h32 _ _ _) (by first | assumption | exact Tree.mine_h32 _ _ _)) rfl rfl rfl H54 ?_
      clear H54; intro a55 H55
      refine plain (y_move rfl rfl) rfl rfl rfl H55 ?_
      clear H55; intro a56 H56
      have H58 := H56.know (d := 37) (v := .bool true) rfl ((by first | rfl | exact congrArg Value.bool (decide_eq_true (by first | assumption | rfl | decide | omega))))
      clear H56
      refine plain (y_move rfl rfl) rfl rfl rfl H58 ?_
      clear H58; intro a59 H59
      refine plain (y_move rfl rfl) rfl rfl rfl H59 ?_
      clear H59; intro a60 H60
      refine plain (y_eql rfl rfl rfl) rfl rfl rfl H60 ?_
      clear H60; intro a61 H61
      refine plain (y_pick_t rfl rfl rfl) rfl rfl rfl H61 ?_
      clear H61; intro a62 H62
      refine plain (y_assign rfl rfl) rfl rfl rfl H62 ?_
      clear H62; intro a63 H63
      refine fin ?_
      refine then_n ?_
      refine wp_ret ?_
      refine then_r ?_
      -- return 2
      refine ret1 rfl H63 rfl ?_
      first | (have hz9 := hk1; have hfin := (H63.only (is := [It.row 26 35 v2 X2.length (Inbox.bc X2), It.row 23 32 u2 X2.length (hc (Tree.hashes (Tree.bl X2))), It.blk c 77 [v2, u2, i64 dp, i64 de], (Tree.It.fz X2), It.row 26 35 vx2 (Tree.mineX Y (Tree.q0 x) x.salt).length (Inbox.bc (Tree.mineX Y (Tree.q0 x) x.salt)), It.blk rx 56 [vx2, i64 dp, i64 de]]) (.cons PP (.cons PP (.cons PP (.cons PP (.cons PP (.cons PP (.nil _)))))))); refine ⟨_, _, rfl, ⟨X2, v2, u2, vx2, de, ⟨hg2, (by rw [Tree.doX_mine hk1, Tree.mineX_is Y _ _ dp de, hXY, hX2])⟩, (by first | rfl | exact congrArg Value.bool (decide_eq_true (by first | rfl | assumption))), rfl⟩, ?_⟩; rw [Tree.doX_mine hk1]; exact hfin.sep) | (have hz9 := hk2; have hfin := (H63.only (is := [It.row 26 35 v2 X2.length (Inbox.bc X2), It.row 23 32 u2 X2.length (hc (Tree.hashes (Tree.bl X2))), It.blk c 77 [v2, u2, i64 dp, i64 (Tree.turn (⟨Tree.bl X, dp, de⟩ : Tree.Chain) x.under (Tree.itl (Tree.fewb x)) x.salt).1.deepest], (Tree.It.fz X2), It.row 26 35 vx2 (Tree.turnX Y x.under (Tree.fewb x) x.salt).length (Inbox.bc (Tree.turnX Y x.under (Tree.fewb x) x.salt)), It.blk rx 56 [vx2, i64 dp, i64 (Tree.turn (⟨Tree.bl X, dp, de⟩ : Tree.Chain) x.under (Tree.itl (Tree.fewb x)) x.salt).1.deepest]]) (.cons PP (.cons PP (.cons PP (.cons PP (.cons PP (.cons PP (.nil _)))))))); refine ⟨_, _, rfl, ⟨X2, v2, u2, vx2, _, ⟨hg2, (by rw [Tree.doX_turn hk2, Tree.turnX_is Y _ _ _ dp de, hXY, hX2])⟩, (by first | rfl | exact congrArg Value.bool (decide_eq_true (by first | rfl | assumption))), rfl⟩, ?_⟩; rw [Tree.doX_turn hk2]; exact hfin.sep)
    ·skip
     refine st_alloc rfl z_zeroN23 rfl rfl rfl H26 ?_
     clear H26; intro b64 a64 wx64 H64
     refine hfinA H64.sep ?_
     refine hgo 3 rfl (by kernel_rfl) ?_
     refine st_callg rfl z_call14 rfl rfl rfl rfl H64 (lfirst x.D x.cd x.bs (hx.kd.at_ H64.sep)) ?_
     clear H64; intro a65 wx65 H65
     refine hfinA H65.sep ?_
     refine hgo 6 rfl (by kernel_rfl) ?_
     refine st_callk2 (is := [It.row 26 35 vx Y.length (Inbox.bc Y), It.blk rx 56 [vx, i64 dp, i64 de]]) (enters_call rfl z_call42 rfl) rfl rfl rfl H65 (.cons PP (.cons PP (.nil _))) (fun hs => rmine Y hY hY0 hYn dp de rx vx (Tree.q0 x) hx.wf.q0.1 x.salt hx.wf.salt hs (fun y hy => (Tree.keeps_sub (hI y hy) H65.sep (.cons PP (.cons PP (.nil _))))) (Tree.keeps_sub hx.q0 H65.sep (.cons PP (.cons PP (.nil _))))) ?_
     clear H65; intro v66 l66 a66 wx66 hf66 H66
     obtain ⟨vx2, rfl, rfl⟩ := hf66
     simp only [List.cons_append, List.nil_append] at H66
     rw [hXY] at H66
     refine hfinA H66.sep ?_
     refine htake 7 rfl (by kernel_rfl) (y_move rfl rfl) rfl rfl rfl (fun _ h => h.subA) H66 ?_
     clear H66; intro a67 H67
     refine htake 8 rfl (by kernel_rfl) (y_extract rfl rfl rfl) rfl rfl rfl (fun _ h => h.subA) H67 ?_
     clear H67; intro a68 H68
     refine htake 9 rfl (by kernel_rfl) (y_extract rfl rfl rfl) rfl rfl rfl (fun _ h => h.subA) H68 ?_
     clear H68; intro a69 H69
     refine hgo 11 rfl (by kernel_rfl) ?_
     refine st_storeN rfl z_size23 rfl rfl (agg_cells _) UU q_one_b32 (q_len_b32 (by first | assumption | exact Tree.mine_h32 _ _ _)) (q_len_b32 (by first | assumption | exact Tree.mine_h32 _ _ _)) (q_spl_b32_0_b32 (by first | assumption | exact Tree.mine_h32 _ _ _) (by first | assumption | exact Tree.mine_h32 _ _ _)) (by decide) rfl rfl H69 ?_
     clear H69; intro wx70 H70
     refine hfinA H70.sep ?_
     refine htake 12 rfl (by kernel_rfl) (y_assign rfl rfl) rfl rfl rfl (fun _ h => h.subA) H70 ?_
     clear H70; intro a71 H71
     refine hdone (by kernel_rfl) ?_
     refine then_n ?_
     refine wp_seq ?_
     refine reg ?_
     refine plain (y_loadAB rfl z_agg23 z_size23 rfl MM (q_ld_b32_0_32 (by first | assumption | exact Tree.mine_h32 _ _ _)) (q_len_b32 (by first | assumption | exact Tree.mine_h32 _ _ _))) rfl rfl rfl H71 ?_
     clear H71; intro a72 H72
     refine plain (y_loadAB rfl z_agg23 z_size23 rfl MM (q_ld_b32_0_32 (by first | assumption | exact Tree.mine_h32 _ _ _)) (q_len_b32 (by first | assumption | exact Tree.mine_h32 _ _ _))) rfl rfl rfl H72 ?_
     clear H72; intro a73 H73
     refine plain (y_heql rfl Tryd.eqGuardType23 Tryd.underlying23 Tryd.underlying5 z_size5 rfl rfl (by first | assumption | exact Tree.mine_h32 _ _ _) (by first | assumption | exact Tree.mine_h32 _ _ _)) rfl rfl rfl H73 ?_
     clear H73; intro a74 H74
     refine plain (y_move rfl rfl) rfl rfl rfl H74 ?_
     clear H74; intro a75 H75
     have H77 := H75.know (d := 37) (v := .bool true) rfl ((by first | rfl | exact congrArg Value.bool (decide_eq_true (by first | assumption | rfl | decide | omega))))
     clear H75
     refine plain (y_move rfl rfl) rfl rfl rfl H77 ?_
     clear H77; intro a78 H78
     refine plain (y_move rfl rfl) rfl rfl rfl H78 ?_
     clear H78; intro a79 H79
     refine plain (y_eql rfl rfl rfl) rfl rfl rfl H79 ?_
     clear H79; intro a80 H80
     refine plain (y_pick_t rfl rfl rfl) rfl rfl rfl H80 ?_
     clear H80; intro a81 H81
     refine plain (y_assign rfl rfl) rfl rfl rfl H81 ?_
     clear H81; intro a82 H82
     refine fin ?_
     refine then_n ?_
     refine wp_ret ?_
     refine then_r ?_
     -- return 3
     refine ret1 rfl H82 rfl ?_
     first | (have hz9 := hk1; have hfin := (H82.only (is := [It.row 26 35 v2 X2.length (Inbox.bc X2), It.row 23 32 u2 X2.length (hc (Tree.hashes (Tree.bl X2))), It.blk c 77 [v2, u2, i64 dp, i64 de], (Tree.It.fz X2), It.row 26 35 vx2 (Tree.mineX Y (Tree.q0 x) x.salt).length (Inbox.bc (Tree.mineX Y (Tree.q0 x) x.salt)), It.blk rx 56 [vx2, i64 dp, i64 de]]) (.cons PP (.cons PP (.cons PP (.cons PP (.cons PP (.cons PP (.nil _)))))))); refine ⟨_, _, rfl, ⟨X2, v2, u2, vx2, de, ⟨hg2, (by rw [Tree.doX_mine hk1, Tree.mineX_is Y _ _ dp de, hXY, hX2])⟩, (by first | rfl | exact congrArg Value.bool (decide_eq_true (by first | rfl | assumption))), rfl⟩, ?_⟩; rw [Tree.doX_mine hk1]; exact hfin.sep) | (have hz9 := hk2; have hfin := (H82.only (is := [It.row 26 35 v2 X2.length (Inbox.bc X2), It.row 23 32 u2 X2.length (hc (Tree.hashes (Tree.bl X2))), It.blk c 77 [v2, u2, i64 dp, i64 (Tree.turn (⟨Tree.bl X, dp, de⟩ : Tree.Chain) x.under (Tree.itl (Tree.fewb x)) x.salt).1.deepest], (Tree.It.fz X2), It.row 26 35 vx2 (Tree.turnX Y x.under (Tree.fewb x) x.salt).length (Inbox.bc (Tree.turnX Y x.under (Tree.fewb x) x.salt)), It.blk rx 56 [vx2, i64 dp, i64 (Tree.turn (⟨Tree.bl X, dp, de⟩ : Tree.Chain) x.under (Tree.itl (Tree.fewb x)) x.salt).1.deepest]]) (.cons PP (.cons PP (.cons PP (.cons PP (.cons PP (.cons PP (.nil _)))))))); refine ⟨_, _, rfl, ⟨X2, v2, u2, vx2, _, ⟨hg2, (by rw [Tree.doX_turn hk2, Tree.turnX_is Y _ _ _ dp de, hXY, hX2])⟩, (by first | rfl | exact congrArg Value.bool (decide_eq_true (by first | rfl | assumption))), rfl⟩, ?_⟩; rw [Tree.doX_turn hk2]; exact hfin.sep)
   ·skip
    refine st_alloc rfl z_zeroN23 rfl rfl rfl H13 ?_
    clear H13; intro b83 a83 wx83 H83
    refine hfinA H83.sep ?_
    refine hgo 6 rfl (by kernel_rfl) ?_
    refine st_callk2 (is := [It.row 26 35 v X.length (Inbox.bc X), It.row 23 32 u X.length (hc (Tree.hashes (Tree.bl X))), It.blk c 77 [v, u, i64 dp, i64 de], (Tree.It.fz X)]) (enters_call rfl z_call13 rfl) rfl rfl rfl H83 (.cons PP (.cons PP (.cons PP (.cons PP (.nil _))))) (fun hs => tmine X g.wf g.pos g.len dp de c v u x.salt hx.wf.salt (Tree.q0 x).A (Tree.q0 x).c (Tree.q0 x).l hx.wf.q0.1.items hx.wf.q0.1.bytes hs (Tree.keeps_sub hx.q0 H83.sep (.cons PP (.cons PP (.cons PP (.cons PP (.nil _)))))) (hG.frm H83.sep.frm hz) (hz4 hz)) ?_
    clear H83; intro v84 l84 a84 wx84 hf84 H84
    obtain ⟨X2, v2, u2, ⟨hX2, hW2⟩, rfl, rfl⟩ := hf84
    simp only [List.cons_append, List.nil_append] at H84
    have hg2 := g.mine hX2 hW2
    refine hfinA H84.sep ?_
    refine htake 7 rfl (by kernel_rfl) (y_move rfl rfl) rfl rfl rfl (fun _ h => h.subA) H84 ?_
    clear H84; intro a85 H85
    refine htake 8 rfl (by kernel_rfl) (y_extract rfl rfl rfl) rfl rfl rfl (fun _ h => h.subA) H85 ?_
    clear H85; intro a86 H86
    refine htake 9 rfl (by kernel_rfl) (y_extract rfl rfl rfl) rfl rfl rfl (fun _ h => h.subA) H86 ?_
    clear H86; intro a87 H87
    refine hgo 11 rfl (by kernel_rfl) ?_
    refine st_storeN rfl z_size23 rfl rfl (agg_cells _) UU q_one_b32 (q_len_b32 (by first | assumption | exact Tree.mine_h32 _ _ _)) (q_len_b32 (by first | assumption | exact Tree.mine_h32 _ _ _)) (q_spl_b32_0_b32 (by first | assumption | exact Tree.mine_h32 _ _ _) (by first | assumption | exact Tree.mine_h32 _ _ _)) (by decide) rfl rfl H87 ?_
    clear H87; intro wx88 H88
    refine hfinA H88.sep ?_
    refine htake 12 rfl (by kernel_rfl) (y_assign rfl rfl) rfl rfl rfl (fun _ h => h.subA) H88 ?_
    clear H88; intro a89 H89
    refine hdone (by kernel_rfl) ?_
    refine then_n ?_
    refine wp_seq ?_
    refine hreg [It.blk b1 39 (Tree.Act.cells x)] (fun _ h => h.subA) (by kernel_rfl) H89 ?_
    clear H89; intro wx90 H90
    refine htake 0 rfl (by kernel_rfl) (y_move rfl rfl) rfl rfl rfl (fun _ h => h.subA) H90 ?_
    clear H90; intro a91 H91
    refine htake 1 rfl (by kernel_rfl) (y_fieldB rfl z_field39_3 rfl (by first | (simp only [Nat.zero_add, Nat.add_zero, Nat.reduceAdd]; rfl) | rfl)) rfl rfl rfl (fun _ h => h.subA) H91 ?_
    clear H91; intro a92 H92
    refine htake 2 rfl (by kernel_rfl) (y_loadB rfl z_agg37 rfl MM q_ix_c4_3) rfl rfl rfl (fun _ h => h.subA) H92 ?_
    clear H92; intro a93 H93
    refine htake 4 rfl (by kernel_rfl) (y_fieldB rfl z_field39_2 rfl (by first | (simp only [Nat.zero_add, Nat.add_zero, Nat.reduceAdd]; rfl) | rfl)) rfl rfl rfl (fun _ h => h.subA) H93 ?_
    clear H93; intro a94 H94
    refine htake 5 rfl (by kernel_rfl) (y_loadB rfl z_agg3 rfl MM q_ix_c4_2) rfl rfl rfl (fun _ h => h.subA) H94 ?_
    clear H94; intro a95 H95
    refine hgo2 3 10 rfl rfl (by kernel_rfl) ?_ ?_
    ·skip
     refine st_callg rfl z_call14 rfl rfl rfl rfl H95 (lfirst x.D x.cd x.bs (hx.kd.at_ H95.sep)) ?_
     clear H95; intro a96 wx96 H96
     refine hfinA H96.sep ?_
     refine hgo2 6 10 rfl rfl (by kernel_rfl) ?_ ?_
     ·skip
      refine st_callk2 (is := [It.row 26 35 vx Y.length (Inbox.bc Y), It.blk rx 56 [vx, i64 dp, i64 de]]) (enters_call rfl z_call42 rfl) rfl rfl rfl H96 (.cons PP (.cons PP (.nil _))) (fun hs => rmine Y hY hY0 hYn dp de rx vx (Tree.q0 x) hx.wf.q0.1 x.salt hx.wf.salt hs (fun y hy => (Tree.keeps_sub (hI y hy) H96.sep (.cons PP (.cons PP (.nil _))))) (Tree.keeps_sub hx.q0 H96.sep (.cons PP (.cons PP (.nil _))))) ?_
      clear H96; intro v97 l97 a97 wx97 hf97 H97
      obtain ⟨vx2, rfl, rfl⟩ := hf97
      simp only [List.cons_append, List.nil_append] at H97
      rw [hXY] at H97
      refine hfinA H97.sep ?_
      refine htake 7 rfl (by kernel_rfl) (y_move rfl rfl) rfl rfl rfl (fun _ h => h.subA) H97 ?_
      clear H97; intro a98 H98
      refine htake 8 rfl (by kernel_rfl) (y_extract rfl rfl rfl) rfl rfl rfl (fun _ h => h.subA) H98 ?_
      clear H98; intro a99 H99
      refine htake 9 rfl (by kernel_rfl) (y_extract rfl rfl rfl) rfl rfl rfl (fun _ h => h.subA) H99 ?_
      clear H99; intro a100 H100
      refine hgo 10 rfl (by kernel_rfl) ?_
      refine st_alloc rfl z_zeroN23 rfl rfl rfl H100 ?_
      clear H100; intro b101 a101 wx101 H101
      refine hfinA H101.sep ?_
      refine hgo 11 rfl (by kernel_rfl) ?_
      refine st_storeN rfl z_size23 rfl rfl (agg_cells _) UU q_one_b32 (q_len_b32 (by first | assumption | exact Tree.mine_h32 _ _ _)) (q_len_b32 (by first | assumption | exact Tree.mine_h32 _ _ _)) (q_spl_b32_0_b32 (by first | assumption | exact Tree.mine_h32 _ _ _) (by first | assumption | exact Tree.mine_h32 _ _ _)) (by decide) rfl rfl H101 ?_
      clear H101; intro wx102 H102
      refine hfinA H102.sep ?_
      refine htake 12 rfl (by kernel_rfl) (y_assign rfl rfl) rfl rfl rfl (fun _ h => h.subA) H102 ?_
      clear H102; intro a103 H103
      refine hdone (by kernel_rfl) ?_
      refine then_n ?_
      refine wp_seq ?_
      refine reg ?_
      refine plain (y_loadAB rfl z_agg23 z_size23 rfl MM (q_ld_b32_0_32 (by first | assumption | exact Tree.mine_h32 _ _ _)) (q_len_b32 (by first | assumption | exact Tree.mine_h32 _ _ _))) rfl rfl rfl H103 ?_
      clear H103; intro a104 H104
      refine plain (y_loadAB rfl z_agg23 z_size23 rfl MM (q_ld_b32_0_32 (by first | assumption | exact Tree.mine_h32 _ _ _)) (q_len_b32 (by first | assumption | exact Tree.mine_h32 _ _ _))) rfl rfl rfl H104 ?_
      clear H104; intro a105 H105
      refine plain (y_heql rfl Tryd.eqGuardType23 Tryd.underlying23 Tryd.underlying5 z_size5 rfl rfl (by first | assumption | exact Tree.mine_h32 _ _ _) (by first | assumption | exact Tree.mine_h32 _ _ _)) rfl rfl rfl H105 ?_
      clear H105; intro a106 H106
      refine plain (y_move rfl rfl) rfl rfl rfl H106 ?_
      clear H106; intro a107 H107
      have H109 := H107.know (d := 37) (v := .bool true) rfl ((by first | rfl | exact congrArg Value.bool (decide_eq_true (by first | assumption | rfl | decide | omega))))
      clear H107
      refine plain (y_move rfl rfl) rfl rfl rfl H109 ?_
      clear H109; intro a110 H110
      refine plain (y_move rfl rfl) rfl rfl rfl H110 ?_
      clear H110; intro a111 H111
      refine plain (y_eql rfl rfl rfl) rfl rfl rfl H111 ?_
      clear H111; intro a112 H112
      refine plain (y_pick_t rfl rfl rfl) rfl rfl rfl H112 ?_
      clear H112; intro a113 H113
      refine plain (y_assign rfl rfl) rfl rfl rfl H113 ?_
      clear H113; intro a114 H114
      refine fin ?_
      refine then_n ?_
      refine wp_ret ?_
      refine then_r ?_
      -- return 4
      refine ret1 rfl H114 rfl ?_
      first | (have hz9 := hk1; have hfin := (H114.only (is := [It.row 26 35 v2 X2.length (Inbox.bc X2), It.row 23 32 u2 X2.length (hc (Tree.hashes (Tree.bl X2))), It.blk c 77 [v2, u2, i64 dp, i64 de], (Tree.It.fz X2), It.row 26 35 vx2 (Tree.mineX Y (Tree.q0 x) x.salt).length (Inbox.bc (Tree.mineX Y (Tree.q0 x) x.salt)), It.blk rx 56 [vx2, i64 dp, i64 de]]) (.cons PP (.cons PP (.cons PP (.cons PP (.cons PP (.cons PP (.nil _)))))))); refine ⟨_, _, rfl, ⟨X2, v2, u2, vx2, de, ⟨hg2, (by rw [Tree.doX_mine hk1, Tree.mineX_is Y _ _ dp de, hXY, hX2])⟩, (by first | rfl | exact congrArg Value.bool (decide_eq_true (by first | rfl | assumption))), rfl⟩, ?_⟩; rw [Tree.doX_mine hk1]; exact hfin.sep) | (have hz9 := hk2; have hfin := (H114.only (is := [It.row 26 35 v2 X2.length (Inbox.bc X2), It.row 23 32 u2 X2.length (hc (Tree.hashes (Tree.bl X2))), It.blk c 77 [v2, u2, i64 dp, i64 (Tree.turn (⟨Tree.bl X, dp, de⟩ : Tree.Chain) x.under (Tree.itl (Tree.fewb x)) x.salt).1.deepest], (Tree.It.fz X2), It.row 26 35 vx2 (Tree.turnX Y x.under (Tree.fewb x) x.salt).length (Inbox.bc (Tree.turnX Y x.under (Tree.fewb x) x.salt)), It.blk rx 56 [vx2, i64 dp, i64 (Tree.turn (⟨Tree.bl X, dp, de⟩ : Tree.Chain) x.under (Tree.itl (Tree.fewb x)) x.salt).1.deepest]]) (.cons PP (.cons PP (.cons PP (.cons PP (.cons PP (.cons PP (.nil _)))))))); refine ⟨_, _, rfl, ⟨X2, v2, u2, vx2, _, ⟨hg2, (by rw [Tree.doX_turn hk2, Tree.turnX_is Y _ _ _ dp de, hXY, hX2])⟩, (by first | rfl | exact congrArg Value.bool (decide_eq_true (by first | rfl | assumption))), rfl⟩, ?_⟩; rw [Tree.doX_turn hk2]; exact hfin.sep)
     ·skip
      refine st_alloc rfl z_zeroN23 rfl rfl rfl H96 ?_
      clear H96; intro b115 a115 wx115 H115
      refine hfinA H115.sep ?_
      refine hgo 6 rfl (by kernel_rfl) ?_
      refine st_callk2 (is := [It.row 26 35 vx Y.length (Inbox.bc Y), It.blk rx 56 [vx, i64 dp, i64 de]]) (enters_call rfl z_call42 rfl) rfl rfl rfl H115 (.cons PP (.cons PP (.nil _))) (fun hs => rmine Y hY hY0 hYn dp de rx vx (Tree.q0 x) hx.wf.q0.1 x.salt hx.wf.salt hs (fun y hy => (Tree.keeps_sub (hI y hy) H115.sep (.cons PP (.cons PP (.nil _))))) (Tree.keeps_sub hx.q0 H115.sep (.cons PP (.cons PP (.nil _))))) ?_
      clear H115; intro v116 l116 a116 wx116 hf116 H116
      obtain ⟨vx2, rfl, rfl⟩ := hf116
      simp only [List.cons_append, List.nil_append] at H116
      rw [hXY] at H116
      refine hfinA H116.sep ?_
      refine htake 7 rfl (by kernel_rfl) (y_move rfl rfl) rfl rfl rfl (fun _ h => h.subA) H116 ?_
      clear H116; intro a117 H117
      refine htake 8 rfl (by kernel_rfl) (y_extract rfl rfl rfl) rfl rfl rfl (fun _ h => h.subA) H117 ?_
      clear H117; intro a118 H118
      refine htake 9 rfl (by kernel_rfl) (y_extract rfl rfl rfl) rfl rfl rfl (fun _ h => h.subA) H118 ?_
      clear H118; intro a119 H119
      refine hgo 11 rfl (by kernel_rfl) ?_
      refine st_storeN rfl z_size23 rfl rfl (agg_cells _) UU q_one_b32 (q_len_b32 (by first | assumption | exact Tree.mine_h32 _ _ _)) (q_len_b32 (by first | assumption | exact Tree.mine_h32 _ _ _)) (q_spl_b32_0_b32 (by first | assumption | exact Tree.mine_h32 _ _ _) (by first | assumption | exact Tree.mine_h32 _ _ _)) (by decide) rfl rfl H119 ?_
      clear H119; intro wx120 H120
      refine hfinA H120.sep ?_
      refine htake 12 rfl (by kernel_rfl) (y_assign rfl rfl) rfl rfl rfl (fun _ h => h.subA) H120 ?_
      clear H120; intro a121 H121
      refine hdone (by kernel_rfl) ?_
      refine then_n ?_
      refine wp_seq ?_
      refine reg ?_
      refine plain (y_loadAB rfl z_agg23 z_size23 rfl MM (q_ld_b32_0_32 (by first | assumption | exact Tree.mine_h32 _ _ _)) (q_len_b32 (by first | assumption | exact Tree.mine_h32 _ _ _))) rfl rfl rfl H121 ?_
      clear H121; intro a122 H122
      refine plain (y_loadAB rfl z_agg23 z_size23 rfl MM (q_ld_b32_0_32 (by first | assumption | exact Tree.mine_h32 _ _ _)) (q_len_b32 (by first | assumption | exact Tree.mine_h32 _ _ _))) rfl rfl rfl H122 ?_
      clear H122; intro a123 H123
      refine plain (y_heql rfl Tryd.eqGuardType23 Tryd.underlying23 Tryd.underlying5 z_size5 rfl rfl (by first | assumption | exact Tree.mine_h32 _ _ _) (by first | assumption | exact Tree.mine_h32 _ _ _)) rfl rfl rfl H123 ?_
      clear H123; intro a124 H124
      refine plain (y_move rfl rfl) rfl rfl rfl H124 ?_
      clear H124; intro a125 H125
      have H127 := H125.know (d := 37) (v := .bool true) rfl ((by first | rfl | exact congrArg Value.bool (decide_eq_true (by first | assumption | rfl | decide | omega))))
      clear H125
      refine plain (y_move rfl rfl) rfl rfl rfl H127 ?_
      clear H127; intro a128 H128
      refine plain (y_move rfl rfl) rfl rfl rfl H128 ?_
      clear H128; intro a129 H129
      refine plain (y_eql rfl rfl rfl) rfl rfl rfl H129 ?_
      clear H129; intro a130 H130
      refine plain (y_pick_t rfl rfl rfl) rfl rfl rfl H130 ?_
      clear H130; intro a131 H131
      refine plain (y_assign rfl rfl) rfl rfl rfl H131 ?_
      clear H131; intro a132 H132
      refine fin ?_
      refine then_n ?_
      refine wp_ret ?_
      refine then_r ?_
      -- return 5
      refine ret1 rfl H132 rfl ?_
      first | (have hz9 := hk1; have hfin := (H132.only (is := [It.row 26 35 v2 X2.length (Inbox.bc X2), It.row 23 32 u2 X2.length (hc (Tree.hashes (Tree.bl X2))), It.blk c 77 [v2, u2, i64 dp, i64 de], (Tree.It.fz X2), It.row 26 35 vx2 (Tree.mineX Y (Tree.q0 x) x.salt).length (Inbox.bc (Tree.mineX Y (Tree.q0 x) x.salt)), It.blk rx 56 [vx2, i64 dp, i64 de]]) (.cons PP (.cons PP (.cons PP (.cons PP (.cons PP (.cons PP (.nil _)))))))); refine ⟨_, _, rfl, ⟨X2, v2, u2, vx2, de, ⟨hg2, (by rw [Tree.doX_mine hk1, Tree.mineX_is Y _ _ dp de, hXY, hX2])⟩, (by first | rfl | exact congrArg Value.bool (decide_eq_true (by first | rfl | assumption))), rfl⟩, ?_⟩; rw [Tree.doX_mine hk1]; exact hfin.sep) | (have hz9 := hk2; have hfin := (H132.only (is := [It.row 26 35 v2 X2.length (Inbox.bc X2), It.row 23 32 u2 X2.length (hc (Tree.hashes (Tree.bl X2))), It.blk c 77 [v2, u2, i64 dp, i64 (Tree.turn (⟨Tree.bl X, dp, de⟩ : Tree.Chain) x.under (Tree.itl (Tree.fewb x)) x.salt).1.deepest], (Tree.It.fz X2), It.row 26 35 vx2 (Tree.turnX Y x.under (Tree.fewb x) x.salt).length (Inbox.bc (Tree.turnX Y x.under (Tree.fewb x) x.salt)), It.blk rx 56 [vx2, i64 dp, i64 (Tree.turn (⟨Tree.bl X, dp, de⟩ : Tree.Chain) x.under (Tree.itl (Tree.fewb x)) x.salt).1.deepest]]) (.cons PP (.cons PP (.cons PP (.cons PP (.cons PP (.cons PP (.nil _)))))))); refine ⟨_, _, rfl, ⟨X2, v2, u2, vx2, _, ⟨hg2, (by rw [Tree.doX_turn hk2, Tree.turnX_is Y _ _ _ dp de, hXY, hX2])⟩, (by first | rfl | exact congrArg Value.bool (decide_eq_true (by first | rfl | assumption))), rfl⟩, ?_⟩; rw [Tree.doX_turn hk2]; exact hfin.sep)
    ·skip
     refine st_alloc rfl z_zeroN23 rfl rfl rfl H95 ?_
     clear H95; intro b133 a133 wx133 H133
     refine hfinA H133.sep ?_
     refine hgo 3 rfl (by kernel_rfl) ?_
     refine st_callg rfl z_call14 rfl rfl rfl rfl H133 (lfirst x.D x.cd x.bs (hx.kd.at_ H133.sep)) ?_
     clear H133; intro a134 wx134 H134
     refine hfinA H134.sep ?_
     refine hgo 6 rfl (by kernel_rfl) ?_
     refine st_callk2 (is := [It.row 26 35 vx Y.length (Inbox.bc Y), It.blk rx 56 [vx, i64 dp, i64 de]]) (enters_call rfl z_call42 rfl) rfl rfl rfl H134 (.cons PP (.cons PP (.nil _))) (fun hs => rmine Y hY hY0 hYn dp de rx vx (Tree.q0 x) hx.wf.q0.1 x.salt hx.wf.salt hs (fun y hy => (Tree.keeps_sub (hI y hy) H134.sep (.cons PP (.cons PP (.nil _))))) (Tree.keeps_sub hx.q0 H134.sep (.cons PP (.cons PP (.nil _))))) ?_
     clear H134; intro v135 l135 a135 wx135 hf135 H135
     obtain ⟨vx2, rfl, rfl⟩ := hf135
     simp only [List.cons_append, List.nil_append] at H135
     rw [hXY] at H135
     refine hfinA H135.sep ?_
     refine htake 7 rfl (by kernel_rfl) (y_move rfl rfl) rfl rfl rfl (fun _ h => h.subA) H135 ?_
     clear H135; intro a136 H136
     refine htake 8 rfl (by kernel_rfl) (y_extract rfl rfl rfl) rfl rfl rfl (fun _ h => h.subA) H136 ?_
     clear H136; intro a137 H137
     refine htake 9 rfl (by kernel_rfl) (y_extract rfl rfl rfl) rfl rfl rfl (fun _ h => h.subA) H137 ?_
     clear H137; intro a138 H138
     refine hgo 11 rfl (by kernel_rfl) ?_
     refine st_storeN rfl z_size23 rfl rfl (agg_cells _) UU q_one_b32 (q_len_b32 (by first | assumption | exact Tree.mine_h32 _ _ _)) (q_len_b32 (by first | assumption | exact Tree.mine_h32 _ _ _)) (q_spl_b32_0_b32 (by first | assumption | exact Tree.mine_h32 _ _ _) (by first | assumption | exact Tree.mine_h32 _ _ _)) (by decide) rfl rfl H138 ?_
     clear H138; intro wx139 H139
     refine hfinA H139.sep ?_
     refine htake 12 rfl (by kernel_rfl) (y_assign rfl rfl) rfl rfl rfl (fun _ h => h.subA) H139 ?_
     clear H139; intro a140 H140
     refine hdone (by kernel_rfl) ?_
     refine then_n ?_
     refine wp_seq ?_
     refine reg ?_
     refine plain (y_loadAB rfl z_agg23 z_size23 rfl MM (q_ld_b32_0_32 (by first | assumption | exact Tree.mine_h32 _ _ _)) (q_len_b32 (by first | assumption | exact Tree.mine_h32 _ _ _))) rfl rfl rfl H140 ?_
     clear H140; intro a141 H141
     refine plain (y_loadAB rfl z_agg23 z_size23 rfl MM (q_ld_b32_0_32 (by first | assumption | exact Tree.mine_h32 _ _ _)) (q_len_b32 (by first | assumption | exact Tree.mine_h32 _ _ _))) rfl rfl rfl H141 ?_
     clear H141; intro a142 H142
     refine plain (y_heql rfl Tryd.eqGuardType23 Tryd.underlying23 Tryd.underlying5 z_size5 rfl rfl (by first | assumption | exact Tree.mine_h32 _ _ _) (by first | assumption | exact Tree.mine_h32 _ _ _)) rfl rfl rfl H142 ?_
     clear H142; intro a143 H143
     refine plain (y_move rfl rfl) rfl rfl rfl H143 ?_
     clear H143; intro a144 H144
     have H146 := H144.know (d := 37) (v := .bool true) rfl ((by first | rfl | exact congrArg Value.bool (decide_eq_true (by first | assumption | rfl | decide | omega))))
     clear H144
     refine plain (y_move rfl rfl) rfl rfl rfl H146 ?_
     clear H146; intro a147 H147
     refine plain (y_move rfl rfl) rfl rfl rfl H147 ?_
     clear H147; intro a148 H148
     refine plain (y_eql rfl rfl rfl) rfl rfl rfl H148 ?_
     clear H148; intro a149 H149
     refine plain (y_pick_t rfl rfl rfl) rfl rfl rfl H149 ?_
     clear H149; intro a150 H150
     refine plain (y_assign rfl rfl) rfl rfl rfl H150 ?_
     clear H150; intro a151 H151
     refine fin ?_
     refine then_n ?_
     refine wp_ret ?_
     refine then_r ?_
     -- return 6
     refine ret1 rfl H151 rfl ?_
     first | (have hz9 := hk1; have hfin := (H151.only (is := [It.row 26 35 v2 X2.length (Inbox.bc X2), It.row 23 32 u2 X2.length (hc (Tree.hashes (Tree.bl X2))), It.blk c 77 [v2, u2, i64 dp, i64 de], (Tree.It.fz X2), It.row 26 35 vx2 (Tree.mineX Y (Tree.q0 x) x.salt).length (Inbox.bc (Tree.mineX Y (Tree.q0 x) x.salt)), It.blk rx 56 [vx2, i64 dp, i64 de]]) (.cons PP (.cons PP (.cons PP (.cons PP (.cons PP (.cons PP (.nil _)))))))); refine ⟨_, _, rfl, ⟨X2, v2, u2, vx2, de, ⟨hg2, (by rw [Tree.doX_mine hk1, Tree.mineX_is Y _ _ dp de, hXY, hX2])⟩, (by first | rfl | exact congrArg Value.bool (decide_eq_true (by first | rfl | assumption))), rfl⟩, ?_⟩; rw [Tree.doX_mine hk1]; exact hfin.sep) | (have hz9 := hk2; have hfin := (H151.only (is := [It.row 26 35 v2 X2.length (Inbox.bc X2), It.row 23 32 u2 X2.length (hc (Tree.hashes (Tree.bl X2))), It.blk c 77 [v2, u2, i64 dp, i64 (Tree.turn (⟨Tree.bl X, dp, de⟩ : Tree.Chain) x.under (Tree.itl (Tree.fewb x)) x.salt).1.deepest], (Tree.It.fz X2), It.row 26 35 vx2 (Tree.turnX Y x.under (Tree.fewb x) x.salt).length (Inbox.bc (Tree.turnX Y x.under (Tree.fewb x) x.salt)), It.blk rx 56 [vx2, i64 dp, i64 (Tree.turn (⟨Tree.bl X, dp, de⟩ : Tree.Chain) x.under (Tree.itl (Tree.fewb x)) x.salt).1.deepest]]) (.cons PP (.cons PP (.cons PP (.cons PP (.cons PP (.cons PP (.nil _)))))))); refine ⟨_, _, rfl, ⟨X2, v2, u2, vx2, _, ⟨hg2, (by rw [Tree.doX_turn hk2, Tree.turnX_is Y _ _ _ dp de, hXY, hX2])⟩, (by first | rfl | exact congrArg Value.bool (decide_eq_true (by first | rfl | assumption))), rfl⟩, ?_⟩; rw [Tree.doX_turn hk2]; exact hfin.sep)
  ·skip
   refine st_alloc rfl z_zeroN23 rfl rfl rfl H12 ?_
   clear H12; intro b152 a152 wx152 H152
   refine hfinA H152.sep ?_
   refine hgo 3 rfl (by kernel_rfl) ?_
   refine st_callg rfl z_call14 rfl rfl rfl rfl H152 (lfirst x.D x.cd x.bs (hx.kd.at_ H152.sep)) ?_
   clear H152; intro a153 wx153 H153
   refine hfinA H153.sep ?_
   refine hgo 6 rfl (by kernel_rfl) ?_
   refine st_callk2 (is := [It.row 26 35 v X.length (Inbox.bc X), It.row 23 32 u X.length (hc (Tree.hashes (Tree.bl X))), It.blk c 77 [v, u, i64 dp, i64 de], (Tree.It.fz X)]) (enters_call rfl z_call13 rfl) rfl rfl rfl H153 (.cons PP (.cons PP (.cons PP (.cons PP (.nil _))))) (fun hs => tmine X g.wf g.pos g.len dp de c v u x.salt hx.wf.salt (Tree.q0 x).A (Tree.q0 x).c (Tree.q0 x).l hx.wf.q0.1.items hx.wf.q0.1.bytes hs (Tree.keeps_sub hx.q0 H153.sep (.cons PP (.cons PP (.cons PP (.cons PP (.nil _)))))) (hG.frm H153.sep.frm hz) (hz4 hz)) ?_
   clear H153; intro v154 l154 a154 wx154 hf154 H154
   obtain ⟨X2, v2, u2, ⟨hX2, hW2⟩, rfl, rfl⟩ := hf154
   simp only [List.cons_append, List.nil_append] at H154
   have hg2 := g.mine hX2 hW2
   refine hfinA H154.sep ?_
   refine htake 7 rfl (by kernel_rfl) (y_move rfl rfl) rfl rfl rfl (fun _ h => h.subA) H154 ?_
   clear H154; intro a155 H155
   refine htake 8 rfl (by kernel_rfl) (y_extract rfl rfl rfl) rfl rfl rfl (fun _ h => h.subA) H155 ?_
   clear H155; intro a156 H156
   refine htake 9 rfl (by kernel_rfl) (y_extract rfl rfl rfl) rfl rfl rfl (fun _ h => h.subA) H156 ?_
   clear H156; intro a157 H157
   refine hgo 11 rfl (by kernel_rfl) ?_
   refine st_storeN rfl z_size23 rfl rfl (agg_cells _) UU q_one_b32 (q_len_b32 (by first | assumption | exact Tree.mine_h32 _ _ _)) (q_len_b32 (by first | assumption | exact Tree.mine_h32 _ _ _)) (q_spl_b32_0_b32 (by first | assumption | exact Tree.mine_h32 _ _ _) (by first | assumption | exact Tree.mine_h32 _ _ _)) (by decide) rfl rfl H157 ?_
   clear H157; intro wx158 H158
   refine hfinA H158.sep ?_
   refine htake 12 rfl (by kernel_rfl) (y_assign rfl rfl) rfl rfl rfl (fun _ h => h.subA) H158 ?_
   clear H158; intro a159 H159
   refine hdone (by kernel_rfl) ?_
   refine then_n ?_
   refine wp_seq ?_
   refine hreg [It.blk b1 39 (Tree.Act.cells x)] (fun _ h => h.subA) (by kernel_rfl) H159 ?_
   clear H159; intro wx160 H160
   refine htake 0 rfl (by kernel_rfl) (y_move rfl rfl) rfl rfl rfl (fun _ h => h.subA) H160 ?_
   clear H160; intro a161 H161
   refine htake 1 rfl (by kernel_rfl) (y_fieldB rfl z_field39_3 rfl (by first | (simp only [Nat.zero_add, Nat.add_zero, Nat.reduceAdd]; rfl) | rfl)) rfl rfl rfl (fun _ h => h.subA) H161 ?_
   clear H161; intro a162 H162
   refine htake 2 rfl (by kernel_rfl) (y_loadB rfl z_agg37 rfl MM q_ix_c4_3) rfl rfl rfl (fun _ h => h.subA) H162 ?_
   clear H162; intro a163 H163
   refine htake 4 rfl (by kernel_rfl) (y_fieldB rfl z_field39_2 rfl (by first | (simp only [Nat.zero_add, Nat.add_zero, Nat.reduceAdd]; rfl) | rfl)) rfl rfl rfl (fun _ h => h.subA) H163 ?_
   clear H163; intro a164 H164
   refine htake 5 rfl (by kernel_rfl) (y_loadB rfl z_agg3 rfl MM q_ix_c4_2) rfl rfl rfl (fun _ h => h.subA) H164 ?_
   clear H164; intro a165 H165
   refine hgo2 3 10 rfl rfl (by kernel_rfl) ?_ ?_
   ·skip
    refine st_callg rfl z_call14 rfl rfl rfl rfl H165 (lfirst x.D x.cd x.bs (hx.kd.at_ H165.sep)) ?_
    clear H165; intro a166 wx166 H166
    refine hfinA H166.sep ?_
    refine hgo2 6 10 rfl rfl (by kernel_rfl) ?_ ?_
    ·skip
     refine st_callk2 (is := [It.row 26 35 vx Y.length (Inbox.bc Y), It.blk rx 56 [vx, i64 dp, i64 de]]) (enters_call rfl z_call42 rfl) rfl rfl rfl H166 (.cons PP (.cons PP (.nil _))) (fun hs => rmine Y hY hY0 hYn dp de rx vx (Tree.q0 x) hx.wf.q0.1 x.salt hx.wf.salt hs (fun y hy => (Tree.keeps_sub (hI y hy) H166.sep (.cons PP (.cons PP (.nil _))))) (Tree.keeps_sub hx.q0 H166.sep (.cons PP (.cons PP (.nil _))))) ?_
     clear H166; intro v167 l167 a167 wx167 hf167 H167
     obtain ⟨vx2, rfl, rfl⟩ := hf167
     simp only [List.cons_append, List.nil_append] at H167
     rw [hXY] at H167
     refine hfinA H167.sep ?_
     refine htake 7 rfl (by kernel_rfl) (y_move rfl rfl) rfl rfl rfl (fun _ h => h.subA) H167 ?_
     clear H167; intro a168 H168
     refine htake 8 rfl (by kernel_rfl) (y_extract rfl rfl rfl) rfl rfl rfl (fun _ h => h.subA) H168 ?_
     clear H168; intro a169 H169
     refine htake 9 rfl (by kernel_rfl) (y_extract rfl rfl rfl) rfl rfl rfl (fun _ h => h.subA) H169 ?_
     clear H169; intro a170 H170
     refine hgo 10 rfl (by kernel_rfl) ?_
     refine st_alloc rfl z_zeroN23 rfl rfl rfl H170 ?_
     clear H170; intro b171 a171 wx171 H171
     refine hfinA H171.sep ?_
     refine hgo 11 rfl (by kernel_rfl) ?_
     refine st_storeN rfl z_size23 rfl rfl (agg_cells _) UU q_one_b32 (q_len_b32 (by first | assumption | exact Tree.mine_h32 _ _ _)) (q_len_b32 (by first | assumption | exact Tree.mine_h32 _ _ _)) (q_spl_b32_0_b32 (by first | assumption | exact Tree.mine_h32 _ _ _) (by first | assumption | exact Tree.mine_h32 _ _ _)) (by decide) rfl rfl H171 ?_
     clear H171; intro wx172 H172
     refine hfinA H172.sep ?_
     refine htake 12 rfl (by kernel_rfl) (y_assign rfl rfl) rfl rfl rfl (fun _ h => h.subA) H172 ?_
     clear H172; intro a173 H173
     refine hdone (by kernel_rfl) ?_
     refine then_n ?_
     refine wp_seq ?_
     refine reg ?_
     refine plain (y_loadAB rfl z_agg23 z_size23 rfl MM (q_ld_b32_0_32 (by first | assumption | exact Tree.mine_h32 _ _ _)) (q_len_b32 (by first | assumption | exact Tree.mine_h32 _ _ _))) rfl rfl rfl H173 ?_
     clear H173; intro a174 H174
     refine plain (y_loadAB rfl z_agg23 z_size23 rfl MM (q_ld_b32_0_32 (by first | assumption | exact Tree.mine_h32 _ _ _)) (q_len_b32 (by first | assumption | exact Tree.mine_h32 _ _ _))) rfl rfl rfl H174 ?_
     clear H174; intro a175 H175
     refine plain (y_heql rfl Tryd.eqGuardType23 Tryd.underlying23 Tryd.underlying5 z_size5 rfl rfl (by first | assumption | exact Tree.mine_h32 _ _ _) (by first | assumption | exact Tree.mine_h32 _ _ _)) rfl rfl rfl H175 ?_
     clear H175; intro a176 H176
     refine plain (y_move rfl rfl) rfl rfl rfl H176 ?_
     clear H176; intro a177 H177
     have H179 := H177.know (d := 37) (v := .bool true) rfl ((by first | rfl | exact congrArg Value.bool (decide_eq_true (by first | assumption | rfl | decide | omega))))
     clear H177
     refine plain (y_move rfl rfl) rfl rfl rfl H179 ?_
     clear H179; intro a180 H180
     refine plain (y_move rfl rfl) rfl rfl rfl H180 ?_
     clear H180; intro a181 H181
     refine plain (y_eql rfl rfl rfl) rfl rfl rfl H181 ?_
     clear H181; intro a182 H182
     refine plain (y_pick_t rfl rfl rfl) rfl rfl rfl H182 ?_
     clear H182; intro a183 H183
     refine plain (y_assign rfl rfl) rfl rfl rfl H183 ?_
     clear H183; intro a184 H184
     refine fin ?_
     refine then_n ?_
     refine wp_ret ?_
     refine then_r ?_
     -- return 7
     refine ret1 rfl H184 rfl ?_
     first | (have hz9 := hk1; have hfin := (H184.only (is := [It.row 26 35 v2 X2.length (Inbox.bc X2), It.row 23 32 u2 X2.length (hc (Tree.hashes (Tree.bl X2))), It.blk c 77 [v2, u2, i64 dp, i64 de], (Tree.It.fz X2), It.row 26 35 vx2 (Tree.mineX Y (Tree.q0 x) x.salt).length (Inbox.bc (Tree.mineX Y (Tree.q0 x) x.salt)), It.blk rx 56 [vx2, i64 dp, i64 de]]) (.cons PP (.cons PP (.cons PP (.cons PP (.cons PP (.cons PP (.nil _)))))))); refine ⟨_, _, rfl, ⟨X2, v2, u2, vx2, de, ⟨hg2, (by rw [Tree.doX_mine hk1, Tree.mineX_is Y _ _ dp de, hXY, hX2])⟩, (by first | rfl | exact congrArg Value.bool (decide_eq_true (by first | rfl | assumption))), rfl⟩, ?_⟩; rw [Tree.doX_mine hk1]; exact hfin.sep) | (have hz9 := hk2; have hfin := (H184.only (is := [It.row 26 35 v2 X2.length (Inbox.bc X2), It.row 23 32 u2 X2.length (hc (Tree.hashes (Tree.bl X2))), It.blk c 77 [v2, u2, i64 dp, i64 (Tree.turn (⟨Tree.bl X, dp, de⟩ : Tree.Chain) x.under (Tree.itl (Tree.fewb x)) x.salt).1.deepest], (Tree.It.fz X2), It.row 26 35 vx2 (Tree.turnX Y x.under (Tree.fewb x) x.salt).length (Inbox.bc (Tree.turnX Y x.under (Tree.fewb x) x.salt)), It.blk rx 56 [vx2, i64 dp, i64 (Tree.turn (⟨Tree.bl X, dp, de⟩ : Tree.Chain) x.under (Tree.itl (Tree.fewb x)) x.salt).1.deepest]]) (.cons PP (.cons PP (.cons PP (.cons PP (.cons PP (.cons PP (.nil _)))))))); refine ⟨_, _, rfl, ⟨X2, v2, u2, vx2, _, ⟨hg2, (by rw [Tree.doX_turn hk2, Tree.turnX_is Y _ _ _ dp de, hXY, hX2])⟩, (by first | rfl | exact congrArg Value.bool (decide_eq_true (by first | rfl | assumption))), rfl⟩, ?_⟩; rw [Tree.doX_turn hk2]; exact hfin.sep)
    ·skip
     refine st_alloc rfl z_zeroN23 rfl rfl rfl H166 ?_
     clear H166; intro b185 a185 wx185 H185
     refine hfinA H185.sep ?_
     refine hgo 6 rfl (by kernel_rfl) ?_
     refine st_callk2 (is := [It.row 26 35 vx Y.length (Inbox.bc Y), It.blk rx 56 [vx, i64 dp, i64 de]]) (enters_call rfl z_call42 rfl) rfl rfl rfl H185 (.cons PP (.cons PP (.nil _))) (fun hs => rmine Y hY hY0 hYn dp de rx vx (Tree.q0 x) hx.wf.q0.1 x.salt hx.wf.salt hs (fun y hy => (Tree.keeps_sub (hI y hy) H185.sep (.cons PP (.cons PP (.nil _))))) (Tree.keeps_sub hx.q0 H185.sep (.cons PP (.cons PP (.nil _))))) ?_
     clear H185; intro v186 l186 a186 wx186 hf186 H186
     obtain ⟨vx2, rfl, rfl⟩ := hf186
     simp only [List.cons_append, List.nil_append] at H186
     rw [hXY] at H186
     refine hfinA H186.sep ?_
     refine htake 7 rfl (by kernel_rfl) (y_move rfl rfl) rfl rfl rfl (fun _ h => h.subA) H186 ?_
     clear H186; intro a187 H187
     refine htake 8 rfl (by kernel_rfl) (y_extract rfl rfl rfl) rfl rfl rfl (fun _ h => h.subA) H187 ?_
     clear H187; intro a188 H188
     refine htake 9 rfl (by kernel_rfl) (y_extract rfl rfl rfl) rfl rfl rfl (fun _ h => h.subA) H188 ?_
     clear H188; intro a189 H189
     refine hgo 11 rfl (by kernel_rfl) ?_
     refine st_storeN rfl z_size23 rfl rfl (agg_cells _) UU q_one_b32 (q_len_b32 (by first | assumption | exact Tree.mine_h32 _ _ _)) (q_len_b32 (by first | assumption | exact Tree.mine_h32 _ _ _)) (q_spl_b32_0_b32 (by first | assumption | exact Tree.mine_h32 _ _ _) (by first | assumption | exact Tree.mine_h32 _ _ _)) (by decide) rfl rfl H189 ?_
     clear H189; intro wx190 H190
     refine hfinA H190.sep ?_
     refine htake 12 rfl (by kernel_rfl) (y_assign rfl rfl) rfl rfl rfl (fun _ h => h.subA) H190 ?_
     clear H190; intro a191 H191
     refine hdone (by kernel_rfl) ?_
     refine then_n ?_
     refine wp_seq ?_
     refine reg ?_
     refine plain (y_loadAB rfl z_agg23 z_size23 rfl MM (q_ld_b32_0_32 (by first | assumption | exact Tree.mine_h32 _ _ _)) (q_len_b32 (by first | assumption | exact Tree.mine_h32 _ _ _))) rfl rfl rfl H191 ?_
     clear H191; intro a192 H192
     refine plain (y_loadAB rfl z_agg23 z_size23 rfl MM (q_ld_b32_0_32 (by first | assumption | exact Tree.mine_h32 _ _ _)) (q_len_b32 (by first | assumption | exact Tree.mine_h32 _ _ _))) rfl rfl rfl H192 ?_
     clear H192; intro a193 H193
     refine plain (y_heql rfl Tryd.eqGuardType23 Tryd.underlying23 Tryd.underlying5 z_size5 rfl rfl (by first | assumption | exact Tree.mine_h32 _ _ _) (by first | assumption | exact Tree.mine_h32 _ _ _)) rfl rfl rfl H193 ?_
     clear H193; intro a194 H194
     refine plain (y_move rfl rfl) rfl rfl rfl H194 ?_
     clear H194; intro a195 H195
     have H197 := H195.know (d := 37) (v := .bool true) rfl ((by first | rfl | exact congrArg Value.bool (decide_eq_true (by first | assumption | rfl | decide | omega))))
     clear H195
     refine plain (y_move rfl rfl) rfl rfl rfl H197 ?_
     clear H197; intro a198 H198
     refine plain (y_move rfl rfl) rfl rfl rfl H198 ?_
     clear H198; intro a199 H199
     refine plain (y_eql rfl rfl rfl) rfl rfl rfl H199 ?_
     clear H199; intro a200 H200
     refine plain (y_pick_t rfl rfl rfl) rfl rfl rfl H200 ?_
     clear H200; intro a201 H201
     refine plain (y_assign rfl rfl) rfl rfl rfl H201 ?_
     clear H201; intro a202 H202
     refine fin ?_
     refine then_n ?_
     refine wp_ret ?_
     refine then_r ?_
     -- return 8
     refine ret1 rfl H202 rfl ?_
     first | (have hz9 := hk1; have hfin := (H202.only (is := [It.row 26 35 v2 X2.length (Inbox.bc X2), It.row 23 32 u2 X2.length (hc (Tree.hashes (Tree.bl X2))), It.blk c 77 [v2, u2, i64 dp, i64 de], (Tree.It.fz X2), It.row 26 35 vx2 (Tree.mineX Y (Tree.q0 x) x.salt).length (Inbox.bc (Tree.mineX Y (Tree.q0 x) x.salt)), It.blk rx 56 [vx2, i64 dp, i64 de]]) (.cons PP (.cons PP (.cons PP (.cons PP (.cons PP (.cons PP (.nil _)))))))); refine ⟨_, _, rfl, ⟨X2, v2, u2, vx2, de, ⟨hg2, (by rw [Tree.doX_mine hk1, Tree.mineX_is Y _ _ dp de, hXY, hX2])⟩, (by first | rfl | exact congrArg Value.bool (decide_eq_true (by first | rfl | assumption))), rfl⟩, ?_⟩; rw [Tree.doX_mine hk1]; exact hfin.sep) | (have hz9 := hk2; have hfin := (H202.only (is := [It.row 26 35 v2 X2.length (Inbox.bc X2), It.row 23 32 u2 X2.length (hc (Tree.hashes (Tree.bl X2))), It.blk c 77 [v2, u2, i64 dp, i64 (Tree.turn (⟨Tree.bl X, dp, de⟩ : Tree.Chain) x.under (Tree.itl (Tree.fewb x)) x.salt).1.deepest], (Tree.It.fz X2), It.row 26 35 vx2 (Tree.turnX Y x.under (Tree.fewb x) x.salt).length (Inbox.bc (Tree.turnX Y x.under (Tree.fewb x) x.salt)), It.blk rx 56 [vx2, i64 dp, i64 (Tree.turn (⟨Tree.bl X, dp, de⟩ : Tree.Chain) x.under (Tree.itl (Tree.fewb x)) x.salt).1.deepest]]) (.cons PP (.cons PP (.cons PP (.cons PP (.cons PP (.cons PP (.nil _)))))))); refine ⟨_, _, rfl, ⟨X2, v2, u2, vx2, _, ⟨hg2, (by rw [Tree.doX_turn hk2, Tree.turnX_is Y _ _ _ dp de, hXY, hX2])⟩, (by first | rfl | exact congrArg Value.bool (decide_eq_true (by first | rfl | assumption))), rfl⟩, ?_⟩; rw [Tree.doX_turn hk2]; exact hfin.sep)
   ·skip
    refine st_alloc rfl z_zeroN23 rfl rfl rfl H165 ?_
    clear H165; intro b203 a203 wx203 H203
    refine hfinA H203.sep ?_
    refine hgo 3 rfl (by kernel_rfl) ?_
    refine st_callg rfl z_call14 rfl rfl rfl rfl H203 (lfirst x.D x.cd x.bs (hx.kd.at_ H203.sep)) ?_
    clear H203; intro a204 wx204 H204
    refine hfinA H204.sep ?_
    refine hgo 6 rfl (by kernel_rfl) ?_
    refine st_callk2 (is := [It.row 26 35 vx Y.length (Inbox.bc Y), It.blk rx 56 [vx, i64 dp, i64 de]]) (enters_call rfl z_call42 rfl) rfl rfl rfl H204 (.cons PP (.cons PP (.nil _))) (fun hs => rmine Y hY hY0 hYn dp de rx vx (Tree.q0 x) hx.wf.q0.1 x.salt hx.wf.salt hs (fun y hy => (Tree.keeps_sub (hI y hy) H204.sep (.cons PP (.cons PP (.nil _))))) (Tree.keeps_sub hx.q0 H204.sep (.cons PP (.cons PP (.nil _))))) ?_
    clear H204; intro v205 l205 a205 wx205 hf205 H205
    obtain ⟨vx2, rfl, rfl⟩ := hf205
    simp only [List.cons_append, List.nil_append] at H205
    rw [hXY] at H205
    refine hfinA H205.sep ?_
    refine htake 7 rfl (by kernel_rfl) (y_move rfl rfl) rfl rfl rfl (fun _ h => h.subA) H205 ?_
    clear H205; intro a206 H206
    refine htake 8 rfl (by kernel_rfl) (y_extract rfl rfl rfl) rfl rfl rfl (fun _ h => h.subA) H206 ?_
    clear H206; intro a207 H207
    refine htake 9 rfl (by kernel_rfl) (y_extract rfl rfl rfl) rfl rfl rfl (fun _ h => h.subA) H207 ?_
    clear H207; intro a208 H208
    refine hgo 11 rfl (by kernel_rfl) ?_
    refine st_storeN rfl z_size23 rfl rfl (agg_cells _) UU q_one_b32 (q_len_b32 (by first | assumption | exact Tree.mine_h32 _ _ _)) (q_len_b32 (by first | assumption | exact Tree.mine_h32 _ _ _)) (q_spl_b32_0_b32 (by first | assumption | exact Tree.mine_h32 _ _ _) (by first | assumption | exact Tree.mine_h32 _ _ _)) (by decide) rfl rfl H208 ?_
    clear H208; intro wx209 H209
    refine hfinA H209.sep ?_
    refine htake 12 rfl (by kernel_rfl) (y_assign rfl rfl) rfl rfl rfl (fun _ h => h.subA) H209 ?_
    clear H209; intro a210 H210
    refine hdone (by kernel_rfl) ?_
    refine then_n ?_
    refine wp_seq ?_
    refine reg ?_
    refine plain (y_loadAB rfl z_agg23 z_size23 rfl MM (q_ld_b32_0_32 (by first | assumption | exact Tree.mine_h32 _ _ _)) (q_len_b32 (by first | assumption | exact Tree.mine_h32 _ _ _))) rfl rfl rfl H210 ?_
    clear H210; intro a211 H211
    refine plain (y_loadAB rfl z_agg23 z_size23 rfl MM (q_ld_b32_0_32 (by first | assumption | exact Tree.mine_h32 _ _ _)) (q_len_b32 (by first | assumption | exact Tree.mine_h32 _ _ _))) rfl rfl rfl H211 ?_
    clear H211; intro a212 H212
    refine plain (y_heql rfl Tryd.eqGuardType23 Tryd.underlying23 Tryd.underlying5 z_size5 rfl rfl (by first | assumption | exact Tree.mine_h32 _ _ _) (by first | assumption | exact Tree.mine_h32 _ _ _)) rfl rfl rfl H212 ?_
    clear H212; intro a213 H213
    refine plain (y_move rfl rfl) rfl rfl rfl H213 ?_
    clear H213; intro a214 H214
    have H216 := H214.know (d := 37) (v := .bool true) rfl ((by first | rfl | exact congrArg Value.bool (decide_eq_true (by first | assumption | rfl | decide | omega))))
    clear H214
    refine plain (y_move rfl rfl) rfl rfl rfl H216 ?_
    clear H216; intro a217 H217
    refine plain (y_move rfl rfl) rfl rfl rfl H217 ?_
    clear H217; intro a218 H218
    refine plain (y_eql rfl rfl rfl) rfl rfl rfl H218 ?_
    clear H218; intro a219 H219
    refine plain (y_pick_t rfl rfl rfl) rfl rfl rfl H219 ?_
    clear H219; intro a220 H220
    refine plain (y_assign rfl rfl) rfl rfl rfl H220 ?_
    clear H220; intro a221 H221
    refine fin ?_
    refine then_n ?_
    refine wp_ret ?_
    refine then_r ?_
    -- return 9
    refine ret1 rfl H221 rfl ?_
    first | (have hz9 := hk1; have hfin := (H221.only (is := [It.row 26 35 v2 X2.length (Inbox.bc X2), It.row 23 32 u2 X2.length (hc (Tree.hashes (Tree.bl X2))), It.blk c 77 [v2, u2, i64 dp, i64 de], (Tree.It.fz X2), It.row 26 35 vx2 (Tree.mineX Y (Tree.q0 x) x.salt).length (Inbox.bc (Tree.mineX Y (Tree.q0 x) x.salt)), It.blk rx 56 [vx2, i64 dp, i64 de]]) (.cons PP (.cons PP (.cons PP (.cons PP (.cons PP (.cons PP (.nil _)))))))); refine ⟨_, _, rfl, ⟨X2, v2, u2, vx2, de, ⟨hg2, (by rw [Tree.doX_mine hk1, Tree.mineX_is Y _ _ dp de, hXY, hX2])⟩, (by first | rfl | exact congrArg Value.bool (decide_eq_true (by first | rfl | assumption))), rfl⟩, ?_⟩; rw [Tree.doX_mine hk1]; exact hfin.sep) | (have hz9 := hk2; have hfin := (H221.only (is := [It.row 26 35 v2 X2.length (Inbox.bc X2), It.row 23 32 u2 X2.length (hc (Tree.hashes (Tree.bl X2))), It.blk c 77 [v2, u2, i64 dp, i64 (Tree.turn (⟨Tree.bl X, dp, de⟩ : Tree.Chain) x.under (Tree.itl (Tree.fewb x)) x.salt).1.deepest], (Tree.It.fz X2), It.row 26 35 vx2 (Tree.turnX Y x.under (Tree.fewb x) x.salt).length (Inbox.bc (Tree.turnX Y x.under (Tree.fewb x) x.salt)), It.blk rx 56 [vx2, i64 dp, i64 (Tree.turn (⟨Tree.bl X, dp, de⟩ : Tree.Chain) x.under (Tree.itl (Tree.fewb x)) x.salt).1.deepest]]) (.cons PP (.cons PP (.cons PP (.cons PP (.cons PP (.cons PP (.nil _)))))))); refine ⟨_, _, rfl, ⟨X2, v2, u2, vx2, _, ⟨hg2, (by rw [Tree.doX_turn hk2, Tree.turnX_is Y _ _ _ dp de, hXY, hX2])⟩, (by first | rfl | exact congrArg Value.bool (decide_eq_true (by first | rfl | assumption))), rfl⟩, ?_⟩; rw [Tree.doX_turn hk2]; exact hfin.sep)
 ·skip
  try simp only [decide_eq_true_eq, decide_eq_false_iff_not, Bool.not_eq_true', Bool.not_eq_false', Bool.and_eq_true, Bool.not_eq_true, Bool.not_eq_false] at hc6
  have hk2 := hc6
  refine wp_skip ?_
  refine then_n ?_
  refine wp_seq ?_
  refine hreg [It.blk b1 39 (Tree.Act.cells x)] (fun _ h => h.subA) (by kernel_rfl) H5 ?_
  clear H5; intro wx222 H222
  refine htake 0 rfl (by kernel_rfl) (y_move rfl rfl) rfl rfl rfl (fun _ h => h.subA) H222 ?_
  clear H222; intro a223 H223
  refine htake 1 rfl (by kernel_rfl) (y_fieldB rfl z_field39_1 rfl (by first | (simp only [Nat.zero_add, Nat.add_zero, Nat.reduceAdd]; rfl) | rfl)) rfl rfl rfl (fun _ h => h.subA) H223 ?_
  clear H223; intro a224 H224
  refine htake 2 rfl (by kernel_rfl) (y_loadB rfl z_agg3 rfl MM q_ix_c4_1) rfl rfl rfl (fun _ h => h.subA) H224 ?_
  clear H224; intro a225 H225
  refine htake 3 rfl (by kernel_rfl) (y_fieldB rfl z_field39_3 rfl (by first | (simp only [Nat.zero_add, Nat.add_zero, Nat.reduceAdd]; rfl) | rfl)) rfl rfl rfl (fun _ h => h.subA) H225 ?_
  clear H225; intro a226 H226
  refine htake 4 rfl (by kernel_rfl) (y_loadB rfl z_agg37 rfl MM q_ix_c4_3) rfl rfl rfl (fun _ h => h.subA) H226 ?_
  clear H226; intro a227 H227
  refine htake 6 rfl (by kernel_rfl) (y_fieldB rfl z_field39_2 rfl (by first | (simp only [Nat.zero_add, Nat.add_zero, Nat.reduceAdd]; rfl) | rfl)) rfl rfl rfl (fun _ h => h.subA) H227 ?_
  clear H227; intro a228 H228
  refine htake 7 rfl (by kernel_rfl) (y_loadB rfl z_agg3 rfl MM q_ix_c4_2) rfl rfl rfl (fun _ h => h.subA) H228 ?_
  clear H228; intro a229 H229
  refine htake 9 rfl (by kernel_rfl) (y_move rfl rfl) rfl rfl rfl (fun _ h => h.subA) H229 ?_
  clear H229; intro a230 H230
  refine htake 10 rfl (by kernel_rfl) (y_fieldB rfl z_field39_1 rfl (by first | (simp only [Nat.zero_add, Nat.add_zero, Nat.reduceAdd]; rfl) | rfl)) rfl rfl rfl (fun _ h => h.subA) H230 ?_
  clear H230; intro a231 H231
  refine htake 11 rfl (by kernel_rfl) (y_loadB rfl z_agg3 rfl MM q_ix_c4_1) rfl rfl rfl (fun _ h => h.subA) H231 ?_
  clear H231; intro a232 H232
  refine htake 12 rfl (by kernel_rfl) (y_fieldB rfl z_field39_3 rfl (by first | (simp only [Nat.zero_add, Nat.add_zero, Nat.reduceAdd]; rfl) | rfl)) rfl rfl rfl (fun _ h => h.subA) H232 ?_
  clear H232; intro a233 H233
  refine htake 13 rfl (by kernel_rfl) (y_loadB rfl z_agg37 rfl MM q_ix_c4_3) rfl rfl rfl (fun _ h => h.subA) H233 ?_
  clear H233; intro a234 H234
  refine htake 15 rfl (by kernel_rfl) (y_fieldB rfl z_field39_2 rfl (by first | (simp only [Nat.zero_add, Nat.add_zero, Nat.reduceAdd]; rfl) | rfl)) rfl rfl rfl (fun _ h => h.subA) H234 ?_
  clear H234; intro a235 H235
  refine htake 16 rfl (by kernel_rfl) (y_loadB rfl z_agg3 rfl MM q_ix_c4_2) rfl rfl rfl (fun _ h => h.subA) H235 ?_
  clear H235; intro a236 H236
  refine hgo 5 rfl (by kernel_rfl) ?_
  refine st_callg rfl z_call16 rfl rfl rfl rfl H236 (lfew x.D x.cd x.bs hx.wf.cap (hx.kd.at_ H236.sep)) ?_
  clear H236; intro a237 wx237 H237
  refine hfinA H237.sep ?_
  refine hgo 8 rfl (by kernel_rfl) ?_
  refine st_callk2 (is := [It.row 26 35 v X.length (Inbox.bc X), It.row 23 32 u X.length (hc (Tree.hashes (Tree.bl X))), It.blk c 77 [v, u, i64 dp, i64 de], (Tree.It.fz X)]) (enters_call rfl z_call15 rfl) rfl rfl rfl H237 (.cons PP (.cons PP (.cons PP (.cons PP (.nil _))))) (fun hs => tturn X g.wf g.pos g.len dp de c v u g.dpi x.under x.salt hx.wf.under hx.wf.salt x.D x.cd (Tree.fewb x) hx.wf.few.1 hx.wf.few.2.1 hs (Tree.keeps_sub hx.few.1 H237.sep (.cons PP (.cons PP (.cons PP (.cons PP (.nil _)))))) (fun q hq => (Tree.keeps_sub (hx.few.2 q hq) H237.sep (.cons PP (.cons PP (.cons PP (.cons PP (.nil _))))))) (hG.frm H237.sep.frm hz) (hz4 hz)) ?_
  clear H237; intro v238 l238 a238 wx238 hf238 H238
  obtain ⟨X2, v2, u2, ⟨hX2, hW2⟩, rfl, rfl⟩ := hf238
  simp only [List.cons_append, List.nil_append] at H238
  have hg2 := g.turn hx.wf.under hX2 hW2
  refine hfinA H238.sep ?_
  refine hgo 14 rfl (by kernel_rfl) ?_
  refine st_callg rfl z_call16 rfl rfl rfl rfl H238 (lfew x.D x.cd x.bs hx.wf.cap (hx.kd.at_ H238.sep)) ?_
  clear H238; intro a239 wx239 H239
  refine hfinA H239.sep ?_
  refine hgo 17 rfl (by kernel_rfl) ?_
  refine st_callk2 (is := [It.row 26 35 vx Y.length (Inbox.bc Y), It.blk rx 56 [vx, i64 dp, i64 de]]) (enters_call rfl z_call43 rfl) rfl rfl rfl H239 (.cons PP (.cons PP (.nil _))) (fun hs => rturn Y hY hY0 hYn dp de rx vx g.dpi x.under x.salt hx.wf.under hx.wf.salt x.D x.cd (Tree.fewb x) hx.wf.few.1 hx.wf.few.2.1 hs (fun y hy => (Tree.keeps_sub (hI y hy) H239.sep (.cons PP (.cons PP (.nil _))))) (Tree.keeps_sub hx.few.1 H239.sep (.cons PP (.cons PP (.nil _)))) (fun q hq => (Tree.keeps_sub (hx.few.2 q hq) H239.sep (.cons PP (.cons PP (.nil _)))))) ?_
  clear H239; intro v240 l240 a240 wx240 hf240 H240
  obtain ⟨vx2, rfl, rfl⟩ := hf240
  simp only [List.cons_append, List.nil_append] at H240
  rw [hXY] at H240
  refine hfinA H240.sep ?_
  refine htake 18 rfl (by kernel_rfl) (y_eql rfl rfl rfl) rfl rfl rfl (fun _ h => h.subA) H240 ?_
  clear H240; intro a241 H241
  refine htake 19 rfl (by kernel_rfl) (y_assign rfl rfl) rfl rfl rfl (fun _ h => h.subA) H241 ?_
  clear H241; intro a242 H242
  refine hdone (by kernel_rfl) ?_
  refine then_n ?_
  refine wp_ret ?_
  -- return 10
  refine ret1 rfl H242 rfl ?_
  first | (have hz9 := hk1; have hfin := (H242.only (is := [It.row 26 35 v2 X2.length (Inbox.bc X2), It.row 23 32 u2 X2.length (hc (Tree.hashes (Tree.bl X2))), It.blk c 77 [v2, u2, i64 dp, i64 de], (Tree.It.fz X2), It.row 26 35 vx2 (Tree.mineX Y (Tree.q0 x) x.salt).length (Inbox.bc (Tree.mineX Y (Tree.q0 x) x.salt)), It.blk rx 56 [vx2, i64 dp, i64 de]]) (.cons PP (.cons PP (.cons PP (.cons PP (.cons PP (.cons PP (.nil _)))))))); refine ⟨_, _, rfl, ⟨X2, v2, u2, vx2, de, ⟨hg2, (by rw [Tree.doX_mine hk1, Tree.mineX_is Y _ _ dp de, hXY, hX2])⟩, (by first | rfl | exact congrArg Value.bool (decide_eq_true (by first | rfl | assumption))), rfl⟩, ?_⟩; rw [Tree.doX_mine hk1]; exact hfin.sep) | (have hz9 := hk2; have hfin := (H242.only (is := [It.row 26 35 v2 X2.length (Inbox.bc X2), It.row 23 32 u2 X2.length (hc (Tree.hashes (Tree.bl X2))), It.blk c 77 [v2, u2, i64 dp, i64 (Tree.turn (⟨Tree.bl X, dp, de⟩ : Tree.Chain) x.under (Tree.itl (Tree.fewb x)) x.salt).1.deepest], (Tree.It.fz X2), It.row 26 35 vx2 (Tree.turnX Y x.under (Tree.fewb x) x.salt).length (Inbox.bc (Tree.turnX Y x.under (Tree.fewb x) x.salt)), It.blk rx 56 [vx2, i64 dp, i64 (Tree.turn (⟨Tree.bl X, dp, de⟩ : Tree.Chain) x.under (Tree.itl (Tree.fewb x)) x.salt).1.deepest]]) (.cons PP (.cons PP (.cons PP (.cons PP (.cons PP (.cons PP (.nil _)))))))); refine ⟨_, _, rfl, ⟨X2, v2, u2, vx2, _, ⟨hg2, (by rw [Tree.doX_turn hk2, Tree.turnX_is Y _ _ _ dp de, hXY, hX2])⟩, (by first | rfl | exact congrArg Value.bool (decide_eq_true (by first | rfl | assumption))), rfl⟩, ?_⟩; rw [Tree.doX_turn hk2]; exact hfin.sep)

end Go.Proofs.YtlhddgkbbdfacaaDoor.C_Do

set_option linter.unusedVariables false
set_option linter.unusedSimpArgs false
namespace Go.Proofs.YtlhddgkbbdfacaaDoor.C_B2
open Go.Sx Go.RowKit Go.Proofs.YtlhddgkbbdfacaaDoor.C_Block Go.Proofs.YtlhddgkbbdfacaaDoor.C_Sum Go.Proofs.YtlhddgkbbdfacaaDoor.C_Ref Go.Proofs.YtlhddgkbbdfacaaDoor.C_RSum Go.Proofs.YtlhddgkbbdfacaaDoor.C_Num Go.Proofs.YtlhddgkbbdfacaaDoor.C_Lay Go.Proofs.YtlhddgkbbdfacaaDoor.C_Leaf Go.Proofs.YtlhddgkbbdfacaaDoor.C_Item Go.Proofs.YtlhddgkbbdfacaaDoor.C_RefI Go.Proofs.YtlhddgkbbdfacaaDoor.C_Eq Go.Proofs.YtlhddgkbbdfacaaDoor.C_Hash Go.Proofs.YtlhddgkbbdfacaaDoor.C_Nx Go.Proofs.YtlhddgkbbdfacaaDoor.C_Sm Go.Proofs.YtlhddgkbbdfacaaDoor.C_Has Go.Proofs.YtlhddgkbbdfacaaDoor.C_Blk


theorem tblock2 (X : List Inbox.BA) (hX : Tree.Wfs X) (h0 : 0 < X.length) (hlen : X.length ≤ 4097) (dp de : Int) (c : Nat) (v u : Value) (hsm : ∀ y ∈ X, y.b.items.length ≤ 32) (n : Int) {w : World} (hc_ : (It.blk c 77 [v, u, i64 dp, i64 de]).P w) (hv_ : (It.row 26 35 v X.length (Inbox.bc X)).P w) (hf_ : (Tree.It.fz X).P w) : Calls Tryd.prog 27 #[.pointer (some ⟨c, 0, none⟩), .int .i64 n] w (Post [] w fun r l' => ∃ A' c', r = .tuple #[.agg (Inbox.BA.cells (⟨Tree.bkAt X n, A', c'⟩ : Inbox.BA)).toArray, .int .i64 (Tree.erAt X n)] ∧ l' = [It.row 69 4 (.slice A' (Tree.bkAt X n).items.length c') (Tree.bkAt X n).items.length (Inbox.ic (Tree.bkAt X n).items)]) := by
 refine (tblock X hX h0 hlen dp de c v u hsm n hc_ hv_ hf_).mono ?_
 rintro e w' ⟨r, l, rfl, (⟨hn, A', c', rfl, rfl⟩ | ⟨hn, rfl, rfl⟩), hs⟩
 ·rw [← (Tree.bkAt_in hn).1, ← (Tree.bkAt_in hn).2] at *
  exact ⟨_, _, rfl, ⟨A', c', rfl, rfl⟩, hs⟩
 ·refine ⟨_, _, rfl, ⟨none, 0, ?_, rfl⟩, ?_⟩
  ·rw [(Tree.bkAt_out hn).1, (Tree.bkAt_out hn).2]; rfl
  ·rw [(Tree.bkAt_out hn).1]; exact hs.addNil _ _

theorem thashn2 (X : List Inbox.BA) (hX : Tree.Wfs X) (h0 : 0 < X.length) (hlen : X.length ≤ 4097) (dp de : Int) (c : Nat) (v u : Value) (n : Int) {w : World} (hc_ : (It.blk c 77 [v, u, i64 dp, i64 de]).P w) (hv_ : (It.row 26 35 v X.length (Inbox.bc X)).P w) (hu_ : (It.row 23 32 u X.length (hc (Tree.hashes (Tree.bl X)))).P w) : Calls Tryd.prog 22 #[.pointer (some ⟨c, 0, none⟩), .int .i64 n] w (Gives (.tuple #[.agg ((Tree.hhAt X n).map u8).toArray, .int .i64 (Tree.erAt X n)]) [] w) := thashn X hX h0 hlen dp de c v u n hc_ hv_ hu_


end Go.Proofs.YtlhddgkbbdfacaaDoor.C_B2

set_option linter.unusedVariables false
set_option linter.unusedSimpArgs false
namespace Go.Proofs.YtlhddgkbbdfacaaDoor.C_L6
open Go.Sx Go.RowKit Go.Proofs.YtlhddgkbbdfacaaDoor.C_Block Go.Proofs.YtlhddgkbbdfacaaDoor.C_Sum Go.Proofs.YtlhddgkbbdfacaaDoor.C_Ref Go.Proofs.YtlhddgkbbdfacaaDoor.C_RSum Go.Proofs.YtlhddgkbbdfacaaDoor.C_Num Go.Proofs.YtlhddgkbbdfacaaDoor.C_Lay Go.Proofs.YtlhddgkbbdfacaaDoor.C_Leaf Go.Proofs.YtlhddgkbbdfacaaDoor.C_Item Go.Proofs.YtlhddgkbbdfacaaDoor.C_RefI Go.Proofs.YtlhddgkbbdfacaaDoor.C_Eq Go.Proofs.YtlhddgkbbdfacaaDoor.C_Hash Go.Proofs.YtlhddgkbbdfacaaDoor.C_Nx Go.Proofs.YtlhddgkbbdfacaaDoor.C_Sm Go.Proofs.YtlhddgkbbdfacaaDoor.C_New Go.Proofs.YtlhddgkbbdfacaaDoor.C_Mine Go.Proofs.YtlhddgkbbdfacaaDoor.C_Turn Go.Proofs.YtlhddgkbbdfacaaDoor.C_Has Go.Proofs.YtlhddgkbbdfacaaDoor.C_Blk Go.Proofs.YtlhddgkbbdfacaaDoor.C_Up Go.Proofs.YtlhddgkbbdfacaaDoor.C_Same Go.Proofs.YtlhddgkbbdfacaaDoor.C_Aw Go.Proofs.YtlhddgkbbdfacaaDoor.C_Fw Go.Proofs.YtlhddgkbbdfacaaDoor.C_Ea Go.Proofs.YtlhddgkbbdfacaaDoor.C_Fd Go.Proofs.YtlhddgkbbdfacaaDoor.C_Rc Go.Proofs.YtlhddgkbbdfacaaDoor.C_Rg Go.Proofs.YtlhddgkbbdfacaaDoor.C_Rm Go.Proofs.YtlhddgkbbdfacaaDoor.C_Rt Go.Proofs.YtlhddgkbbdfacaaDoor.C_Do Go.Proofs.YtlhddgkbbdfacaaDoor.C_B2

theorem z_call12 : callB Tryd.prog 12 = true := by kernel_rfl
theorem z_call23 : callB Tryd.prog 23 = true := by kernel_rfl
theorem z_call11 : callB Tryd.prog 11 = true := by kernel_rfl
theorem z_size39 : sizeB Tryd.prog 39 = some 4 := by kernel_rfl
theorem z_agg39 : aggB Tryd.prog 39 = some true := by kernel_rfl
theorem z_call24 : callB Tryd.prog 24 = true := by kernel_rfl
theorem z_call21 : callB Tryd.prog 21 = true := by kernel_rfl
theorem z_call25 : callB Tryd.prog 25 = true := by kernel_rfl
theorem z_call18 : callB Tryd.prog 18 = true := by kernel_rfl
theorem z_call26 : callB Tryd.prog 26 = true := by kernel_rfl
theorem z_field56_2 : fieldB Tryd.prog 56 2 = some 2 := by kernel_rfl
theorem z_call20 : callB Tryd.prog 20 = true := by kernel_rfl
theorem z_agg3 : aggB Tryd.prog 3 = some false := by kernel_rfl
theorem q_ix_c3_2 {a0 a1 a2 : Value} : (a0 :: a1 :: a2 :: [])[2]? = some a2 := (ix_c (o := 1) (ix_c (o := 0) ix_0))
theorem z_field56_0 : fieldB Tryd.prog 56 0 = some 0 := by kernel_rfl
theorem z_agg36 : aggB Tryd.prog 36 = some false := by kernel_rfl
theorem q_ix_c3_0 {a0 a1 a2 : Value} : (a0 :: a1 :: a2 :: [])[0]? = some a0 := ix_0
theorem z_call17 : callB Tryd.prog 17 = true := by kernel_rfl
theorem z_call19 : callB Tryd.prog 19 = true := by kernel_rfl
theorem z_size26 : sizeB Tryd.prog 26 = some 35 := by kernel_rfl
theorem z_call27 : callB Tryd.prog 27 = true := by kernel_rfl
theorem z_zeroN26 : zeroL Tryd.prog 26 = some ((.int .i64 0 :: (.int .i64 0 :: ((List.replicate 32 (0 : UInt8)).map u8 ++ (.slice none 0 0 :: []))))) := by kernel_rfl
theorem q_one_c2b32c1 {a0 a1 a3 : Value} {t2 : List UInt8} (o0 : a0.oneCell' = true) (o1 : a1.oneCell' = true) (o3 : a3.oneCell' = true) : (a0 :: a1 :: (t2.map u8 ++ (a3 :: []))).all (·.oneCell') = true := (one_c o0 (one_c o1 (one_b (one_c o3 one_n))))
theorem q_len_c2b32c1 {a0 a1 a3 : Value} {t2 : List UInt8} (h2 : t2.length = 32) : (a0 :: a1 :: (t2.map u8 ++ (a3 :: []))).length = 35 := (len_c (n := 34) (len_c (n := 33) (len_b (k := 32) (n := 1) h2 (len_c (n := 0) len_n))))
theorem q_spl_c2b32c1_0_c2b32c1 {a0 a1 a3 : Value} {t2 : List UInt8} {b0 b1 b3 : Value} {s2 : List UInt8} (h2 : t2.length = 32) (g2 : s2.length = 32) : spl (a0 :: a1 :: (t2.map u8 ++ (a3 :: []))) 0 (b0 :: b1 :: (s2.map u8 ++ (b3 :: []))) = b0 :: b1 :: (s2.map u8 ++ (b3 :: [])) := (spl_a (z := 35) (len_c (n := 34) (len_c (n := 33) (len_b (k := 32) (n := 1) h2 (len_c (n := 0) len_n)))) (len_c (n := 34) (len_c (n := 33) (len_b (k := 32) (n := 1) g2 (len_c (n := 0) len_n)))))
theorem z_call22 : callB Tryd.prog 22 = true := by kernel_rfl
theorem z_zeroN23 : zeroL Tryd.prog 23 = some ((List.replicate 32 (0 : UInt8)).map u8) := by kernel_rfl
theorem z_size23 : sizeB Tryd.prog 23 = some 32 := by kernel_rfl
theorem q_one_b32 {t0 : List UInt8} : (t0.map u8).all (·.oneCell') = true := (one_u8 _)
theorem q_len_b32 {t0 : List UInt8} (h0 : t0.length = 32) : (t0.map u8).length = 32 := (len_e (k := 32) h0)
theorem q_spl_b32_0_b32 {t0 : List UInt8} {s0 : List UInt8} (h0 : t0.length = 32) (g0 : s0.length = 32) : spl (t0.map u8) 0 (s0.map u8) = s0.map u8 := (spl_a (z := 32) (len_e (k := 32) h0) (len_e (k := 32) g0))
theorem z_agg26 : aggB Tryd.prog 26 = some true := by kernel_rfl
theorem q_ld_c2b32c1_0_35 {a0 a1 a3 : Value} {t2 : List UInt8} (h2 : t2.length = 32) : ((a0 :: a1 :: (t2.map u8 ++ (a3 :: []))).drop 0).take 35 = a0 :: a1 :: (t2.map u8 ++ (a3 :: [])) := (ld_a (len_c (n := 34) (len_c (n := 33) (len_b (k := 32) (n := 1) h2 (len_c (n := 0) len_n)))))
theorem z_places26 : placesB Tryd.prog 26 = some [(0, 1), (1, 1), (2, 32), (34, 1)] := by kernel_rfl
theorem z_call28 : callB Tryd.prog 28 = true := by kernel_rfl
theorem z_agg23 : aggB Tryd.prog 23 = some true := by kernel_rfl
theorem q_ld_b32_0_32 {t0 : List UInt8} (h0 : t0.length = 32) : ((t0.map u8).drop 0).take 32 = t0.map u8 := (ld_a (len_e (k := 32) h0))
theorem z_size5 : sizeB Tryd.prog 5 = some 1 := by kernel_rfl
theorem z_call10 : callB Tryd.prog 10 = true := by kernel_rfl
theorem z_call29 : callB Tryd.prog 29 = true := by kernel_rfl

set_option maxRecDepth 100000 in
set_option maxHeartbeats 2000000 in
theorem treeDoes1 (dp n : Int) (h1 : 0 ≤ dp ∧ dp ≤ 4096) (hn : Note.I64 n) (l : List Tree.Act) (A0 : Option Addr) (ca : Nat) (hl0 : l.length ≤ 9223372036854775807) {w : World} (wl : ∀ x ∈ l, Tree.Act.Wf w x) (hA : Rd w A0 (Tree.acs l)) (hG : Glob 0 Sha.K w) : Calls Tryd.prog 7 #[.int .i64 dp, .slice A0 l.length ca, .int .i64 n] w (Gives (.bool true) [] w) := by
 have hZl : Note.Z.length = 32 := Note.Z_len
 have hn1 := hn.1
 have hn2 := hn.2
 have lz32 : (List.replicate 32 (0 : UInt8)).length = 32 := List.length_replicate
 refine enterL (args := [.int .i64 dp, .slice A0 l.length ca, .int .i64 n]) Tryd.func7 rfl rfl (l := []) (Sep.refl _) ?_
 intro a0 H0
 refine wp_seq ?_
 refine reg ?_
 refine plain (y_assign rfl rfl) rfl rfl rfl H0 ?_
 clear H0; intro a1 H1
 refine fin ?_
 refine then_n ?_
 refine wp_seq ?_
 refine reg ?_
 refine plain (y_move rfl rfl) rfl rfl rfl H1 ?_
 clear H1; intro a2 H2
 refine st_call rfl z_call12 rfl rfl rfl rfl H2 (tnew dp h1 (hG.frm H2.sep.frm (by simp))) ?_
 clear H2; intro v3 l3 a3 wx3 hf3 H3
 obtain ⟨c, v, u, rfl, rfl⟩ := hf3
 simp only [List.cons_append, List.nil_append] at H3
 refine plain (y_move rfl rfl) rfl rfl rfl H3 ?_
 clear H3; intro a4 H4
 refine plain (y_extract rfl rfl rfl) rfl rfl rfl H4 ?_
 clear H4; intro a5 H5
 refine plain (y_extract rfl rfl rfl) rfl rfl rfl H5 ?_
 clear H5; intro a6 H6
 refine plain (y_assign rfl rfl) rfl rfl rfl H6 ?_
 clear H6; intro a7 H7
 refine plain (y_assign rfl rfl) rfl rfl rfl H7 ?_
 clear H7; intro a8 H8
 refine fin ?_
 refine then_n ?_
 refine wp_seq ?_
 refine reg ?_
 refine plain (y_move rfl rfl) rfl rfl rfl H8 ?_
 clear H8; intro a9 H9
 refine st_call rfl z_call23 rfl rfl rfl rfl H9 (rcnew dp h1 _) ?_
 clear H9; intro v10 l10 a10 wx10 hf10 H10
 obtain ⟨rx, vx, rfl, rfl⟩ := hf10
 simp only [List.cons_append, List.nil_append] at H10
 refine plain (y_move rfl rfl) rfl rfl rfl H10 ?_
 clear H10; intro a11 H11
 refine plain (y_extract rfl rfl rfl) rfl rfl rfl H11 ?_
 clear H11; intro a12 H12
 refine plain (y_extract rfl rfl rfl) rfl rfl rfl H12 ?_
 clear H12; intro a13 H13
 refine plain (y_assign rfl rfl) rfl rfl rfl H13 ?_
 clear H13; intro a14 H14
 refine plain (y_assign rfl rfl) rfl rfl rfl H14 ?_
 clear H14; intro a15 H15
 refine fin ?_
 refine then_n ?_
 refine wp_seq ?_
 refine wp_seq ?_
 refine reg ?_
 refine plain (y_move rfl rfl) rfl rfl rfl H15 ?_
 clear H15; intro a16 H16
 refine plain (y_move rfl rfl) rfl rfl rfl H16 ?_
 clear H16; intro a17 H17
 refine plain (y_neq rfl rfl rfl) rfl rfl rfl H17 ?_
 clear H17; intro a18 H18
 refine plain (y_move rfl rfl) rfl rfl rfl H18 ?_
 clear H18; intro a19 H19
 have H21 := H19.know (d := 33) (v := .bool false) rfl ((by first | rfl | exact congrArg Value.bool (decide_eq_false (fun z => z rfl)) | exact congrArg Value.bool (decide_eq_false (by first | decide | omega))))
 clear H19
 refine plain (y_move rfl rfl) rfl rfl rfl H21 ?_
 clear H21; intro a22 H22
 refine plain (y_peql rfl Tryd.underlying33 rfl rfl) rfl rfl rfl H22 ?_
 clear H22; intro a23 H23
 refine plain (y_move rfl rfl) rfl rfl rfl H23 ?_
 clear H23; intro a24 H24
 refine plain (y_peql rfl Tryd.underlying51 rfl rfl) rfl rfl rfl H24 ?_
 clear H24; intro a25 H25
 refine plain (y_bneq rfl Tryd.underlying4 rfl rfl) rfl rfl rfl H25 ?_
 clear H25; intro a26 H26
 refine plain (y_pick_f rfl rfl rfl) rfl rfl rfl H26 ?_
 clear H26; intro a27 H27
 refine plain (y_move rfl rfl) rfl rfl rfl H27 ?_
 clear H27; intro a28 H28
 have H30 := H28.know (d := 40) (v := .bool false) rfl ((by first | rfl | exact congrArg Value.bool (decide_eq_false (fun z => z rfl)) | exact congrArg Value.bool (decide_eq_false (by first | decide | omega))))
 clear H28
 refine st_callg rfl z_call11 rfl rfl rfl rfl H30 (awake (hG.frm H30.sep.frm (by simp))) ?_
 clear H30; intro a31 wx31 H31
 refine plain (y_not rfl rfl) rfl rfl rfl H31 ?_
 clear H31; intro a32 H32
 refine plain (y_pick_f rfl rfl rfl) rfl rfl rfl H32 ?_
 clear H32; intro a33 H33
 refine fin ?_
 refine then_n ?_
 refine cnd_f H33 rfl ?_
 refine wp_skip ?_
 refine then_n ?_
 refine wp_seq ?_
 refine wp_seq ?_
 refine reg ?_
 refine plain (y_move rfl rfl) rfl rfl rfl H33 ?_
 clear H33; intro a35 H35
 refine plain (y_peql rfl Tryd.underlying51 rfl rfl) rfl rfl rfl H35 ?_
 clear H35; intro a36 H36
 refine fin ?_
 refine then_n ?_
 refine cnd H36 rfl (fun hc37 => ?_) (fun hc37 => ?_) -- cond 2
 ·(try simp only [decide_eq_true_eq, decide_eq_false_iff_not, Bool.not_eq_true', Bool.not_eq_false', Bool.and_eq_true, Bool.not_eq_true, Bool.not_eq_false] at hc37); (exfalso; simp at hc37)
 ·skip
  try simp only [decide_eq_true_eq, decide_eq_false_iff_not, Bool.not_eq_true', Bool.not_eq_false', Bool.and_eq_true, Bool.not_eq_true, Bool.not_eq_false] at hc37
  refine wp_skip ?_
  refine then_n ?_
  refine wp_seq ?_
  refine wp_seq ?_
  refine reg ?_
  refine plain (y_assign rfl rfl) rfl rfl rfl H36 ?_
  clear H36; intro a38 H38
  refine fin ?_
  refine then_n ?_
  refine wp_block ?_
  replace H38 := (H38.only (is := [It.row 26 35 v [Inbox.BA.zero].length (Inbox.bc [Inbox.BA.zero]), It.row 23 32 u [Inbox.BA.zero].length (hc (Tree.hashes (Tree.bl [Inbox.BA.zero]))), It.blk c 77 [v, u, i64 dp, i64 0], (Tree.It.fz [Inbox.BA.zero]), It.row 26 35 vx [Inbox.BA.zero].length (Inbox.bc [Inbox.BA.zero]), It.blk rx 56 [vx, i64 dp, i64 0]]) (.cons PP (.cons PP (.cons PP (.cons PP (.cons PP (.cons PP (.nil _))))))))
  refine loop (ι := Nat × (List Inbox.BA × (Int × (Value × (Value × (List Inbox.BA × Value)))))) (fun y => [(1, .slice A0 l.length ca), (2, .int .i64 n), (7, .pointer (some ⟨c, 0, none⟩)), (9, .pointer (some ⟨rx, 0, none⟩)), (11, .int .i64 (y.1 : Int))]) (fun y => [It.row 26 35 y.2.2.2.1 y.2.1.length (Inbox.bc y.2.1), It.row 23 32 y.2.2.2.2.1 y.2.1.length (hc (Tree.hashes (Tree.bl y.2.1))), It.blk c 77 [y.2.2.2.1, y.2.2.2.2.1, i64 dp, i64 y.2.2.1], (Tree.It.fz y.2.1), It.row 26 35 y.2.2.2.2.2.2 y.2.2.2.2.2.1.length (Inbox.bc y.2.2.2.2.2.1), It.blk rx 56 [y.2.2.2.2.2.2, i64 dp, i64 y.2.2.1]]) (fun y => y.1 ≤ l.length ∧ Tree.Grown y.2.1 y.2.2.1 ∧ Tree.bl y.2.2.2.2.2.1 = Tree.bl y.2.1 ∧ ∀ z ∈ y.2.2.2.2.2.1, Tree.QOld w z) (fun y => l.length - y.1) ((0, ([Inbox.BA.zero], ((0 : Int), (v, (u, ([Inbox.BA.zero], vx))))))) ⟨Nat.zero_le _, Tree.grown_new, rfl, Tree.q_zero w⟩ (H38.weak ⟨rfl, rfl, rfl, rfl, rfl, trivial⟩ rfl) ?_
  clear H38; intro y a39 wx39 hok39 H39
  obtain ⟨k, X, de, v1, u1, Y, vx1⟩ := y
  dsimp only at hok39 H39
  obtain ⟨hk, hg, hXY, hQ⟩ := hok39
  obtain ⟨A5, c5, rfl, hR5, hm5⟩ := row_shape (v := vx1) H39.sep MM
  have hcap5 := row_cap (A := A5) (c := c5) H39.sep MM
  have hYW : Tree.Wfs Y := fun y hy => (hQ y hy).1
  have hYl := Tree.len_bl hXY
  have hxp := hg.pos
  have hxl := hg.len
  refine wp_seq ?_
  refine wp_seq ?_
  refine wp_cut (fun aC wC => St Tryd.f7.ntmps [] w ([(1, .slice A0 l.length ca), (2, .int .i64 n), (7, .pointer (some ⟨c, 0, none⟩)), (9, .pointer (some ⟨rx, 0, none⟩)), (11, .int .i64 (k : Int)), (53, .bool (decide ((k : Int) < (l.length : Int) ∧ (k : Int) < 25)))]) ([It.row 26 35 v1 X.length (Inbox.bc X), It.row 23 32 u1 X.length (hc (Tree.hashes (Tree.bl X))), It.blk c 77 [v1, u1, i64 dp, i64 de], (Tree.It.fz X), It.row 26 35 (.slice A5 Y.length c5) Y.length (Inbox.bc Y), It.blk rx 56 [(.slice A5 Y.length c5), i64 dp, i64 de]]) aC wC) ?_ ?_
  ·skip
   refine reg ?_
   refine plain (y_move rfl rfl) rfl rfl rfl H39 ?_
   clear H39; intro a40 H40
   refine plain (y_move rfl rfl) rfl rfl rfl H40 ?_
   clear H40; intro a41 H41
   refine plain (y_len rfl Tryd.underlying32 rfl) rfl rfl rfl H41 ?_
   clear H41; intro a42 H42
   refine plain (y_lss rfl rfl rfl) rfl rfl rfl H42 ?_
   clear H42; intro a43 H43
   refine plain (y_move rfl rfl) rfl rfl rfl H43 ?_
   clear H43; intro a44 H44
   refine Sx.part (d := 50) H44 rfl (fun hg45 => ?_) (fun hg45 => ?_)
   ·first
    |fail
    |skip
     clear H44; intro H46
     try simp only [decide_eq_true_eq, decide_eq_false_iff_not, Bool.not_eq_true', Bool.not_eq_false', Bool.and_eq_true, Bool.not_eq_true, Bool.not_eq_false] at hg45
     refine plain (y_move rfl rfl) rfl rfl rfl H46 ?_
     clear H46; intro a47 H47
     refine plain (y_lss rfl rfl rfl) rfl rfl rfl H47 ?_
     clear H47; intro a48 H48
     refine plain (y_pick_t rfl rfl rfl) rfl rfl rfl H48 ?_
     clear H48; intro a49 H49
     refine fin ?_
     refine cut_n ?_
     replace H49 := H49.know (d := 53) rfl (show _ = Value.bool (decide ((k : Int) < (l.length : Int) ∧ (k : Int) < 25)) from congrArg Value.bool (by first | exact decide_eq_decide.2 (by constructor <;> intro h <;> omega) | exact (decide_eq_false (by omega)).symm))
     exact H49.weak ⟨rfl, rfl, rfl, rfl, rfl, rfl, trivial⟩ rfl
   ·first
    |fail
    |skip
     clear H44; intro H50
     try simp only [decide_eq_true_eq, decide_eq_false_iff_not, Bool.not_eq_true', Bool.not_eq_false', Bool.and_eq_true, Bool.not_eq_true, Bool.not_eq_false] at hg45
     refine skip rfl rfl rfl H50 ?_
     clear H50; intro a51 H51
     refine skip rfl rfl rfl H51 ?_
     clear H51; intro a52 H52
     refine plain (y_pick_f rfl rfl rfl) rfl rfl rfl H52 ?_
     clear H52; intro a53 H53
     refine fin ?_
     refine cut_n ?_
     replace H53 := H53.know (d := 53) rfl (show _ = Value.bool (decide ((k : Int) < (l.length : Int) ∧ (k : Int) < 25)) from congrArg Value.bool (by first | exact decide_eq_decide.2 (by constructor <;> intro h <;> omega) | exact (decide_eq_false (by omega)).symm))
     exact H53.weak ⟨rfl, rfl, rfl, rfl, rfl, rfl, trivial⟩ rfl
  ·clear H39; intro a54 wx54 hI54
   have H54 := hI54
   refine then_n ?_
   refine cnd H54 rfl (fun hc55 => ?_) (fun hc55 => ?_) -- cond 3
   ·skip
    try simp only [decide_eq_true_eq, decide_eq_false_iff_not, Bool.not_eq_true', Bool.not_eq_false', Bool.and_eq_true, Bool.not_eq_true, Bool.not_eq_false] at hc55
    refine wp_skip ?_
    refine then_n ?_
    refine wp_seq ?_
    refine wp_block ?_
    refine wp_seq ?_
    have hkl : k < l.length := by omega
    have wc := Tree.atA wl hkl
    refine hreg ([] : List It) (fun _ h => h.subA) (by kernel_rfl) H54 ?_
    clear H54; intro wx56 H56
    refine htake 0 rfl (by kernel_rfl) (y_move rfl rfl) rfl rfl rfl (fun _ h => h.subA) H56 ?_
    clear H56; intro a57 H57
    refine htake 1 rfl (by kernel_rfl) (y_move rfl rfl) rfl rfl rfl (fun _ h => h.subA) H57 ?_
    clear H57; intro a58 H58
    refine htake 2 rfl (by kernel_rfl) (y_move rfl rfl) rfl rfl rfl (fun _ h => h.subA) H58 ?_
    clear H58; intro a59 H59
    refine htake 3 rfl (by kernel_rfl) (y_move rfl rfl) rfl rfl rfl (fun _ h => h.subA) H59 ?_
    clear H59; intro a60 H60
    refine htake 4 rfl (by kernel_rfl) (y_ixR rfl Tryd.underlying32 z_size39 rfl rfl (by omega) (by omega) (rd_old hA (by simp)) (by first | (rw [Tree.acs_len]; omega) | (rw [Tree.bc_len hYW]; omega))) rfl rfl rfl (fun _ h => h.subA) H60 ?_
    clear H60; intro a61 H61
    refine htake 5 rfl (by kernel_rfl) (y_loadAS rfl z_agg39 z_size39 rfl (rd_old hA (by simp)) (show _ = Tree.Act.cells (l.getD k Tree.Act.zero) from Tree.acs_take l k hkl) rfl (by decide)) rfl rfl rfl (fun _ h => h.subA) H61 ?_
    clear H61; intro a62 H62
    refine hgo 6 rfl (by kernel_rfl) ?_
    refine st_callk2 (is := [It.row 26 35 v1 X.length (Inbox.bc X), It.row 23 32 u1 X.length (hc (Tree.hashes (Tree.bl X))), It.blk c 77 [v1, u1, i64 dp, i64 de], (Tree.It.fz X), It.row 26 35 (.slice A5 Y.length c5) Y.length (Inbox.bc Y), It.blk rx 56 [(.slice A5 Y.length c5), i64 dp, i64 de]]) (enters_call rfl z_call24 rfl) rfl rfl rfl H62 (.cons PP (.cons PP (.cons PP (.cons PP (.cons PP (.cons PP (.nil _))))))) (fun hs => tdo X Y de hg hYW hXY dp c rx v1 u1 (.slice A5 Y.length c5) (l.getD k Tree.Act.zero) hs (Tree.actK_old wc (wc.at_ H62.sep) H62.sep (.cons PP (.cons PP (.cons PP (.cons PP (.cons PP (.cons PP (.nil _)))))))) (fun y hy => Tree.keeps_old (hQ y hy).2 H62.sep (.cons PP (.cons PP (.cons PP (.cons PP (.cons PP (.cons PP (.nil _)))))))) (hG.frm H62.sep.frm (by simp)) (fps_new H62.sep (.cons PP (.cons PP (.cons PP (.cons PP (.cons PP (.cons PP (.nil _))))))) hG (by decide))) ?_
    clear H62; intro v63 l63 a63 wx63 hf63 H63
    obtain ⟨X2, v2, u2, vx2, de2, ⟨hg2, hdx⟩, rfl, rfl⟩ := hf63
    simp only [List.cons_append, List.nil_append] at H63
    have hQ2 := Tree.doX_all hQ wc
    generalize hYe : Tree.doX Y (l.getD k Tree.Act.zero) = Y2 at *
    have hY2W : Tree.Wfs Y2 := fun y hy => (hQ2 y hy).1
    have hY2l := Tree.len_bl hdx
    have hx2p := hg2.pos
    have hx2l := hg2.len
    refine hfinA H63.sep ?_
    refine htake 7 rfl (by kernel_rfl) (y_not rfl rfl) rfl rfl rfl (fun _ h => h.subA) H63 ?_
    clear H63; intro a64 H64
    refine htake 8 rfl (by kernel_rfl) (y_move rfl rfl) rfl rfl rfl (fun _ h => h.subA) H64 ?_
    clear H64; intro a65 H65
    refine htake 9 rfl (by kernel_rfl) (y_move rfl rfl) rfl rfl rfl (fun _ h => h.subA) H65 ?_
    clear H65; intro a66 H66
    refine htake 11 rfl (by kernel_rfl) (y_move rfl rfl) rfl rfl rfl (fun _ h => h.subA) H66 ?_
    clear H66; intro a67 H67
    refine hgo 10 rfl (by kernel_rfl) ?_
    refine st_callg rfl z_call21 rfl rfl rfl rfl H67 (theight X2 hg2.wf hg2.pos hg2.len dp de2 c v2 u2 (H67.sep.all _ MM) (H67.sep.all _ MM)) ?_
    clear H67; intro a68 wx68 H68
    refine hfinA H68.sep ?_
    refine hgo 12 rfl (by kernel_rfl) ?_
    refine st_callg rfl z_call25 rfl rfl rfl rfl H68 (rcheight Y2 hY2W (by omega) (by omega) dp de2 rx vx2 (H68.sep.all _ MM) (H68.sep.all _ MM)) ?_
    clear H68; intro a69 wx69 H69
    refine hfinA H69.sep ?_
    refine htake 13 rfl (by kernel_rfl) (y_neq rfl rfl rfl) rfl rfl rfl (fun _ h => h.subA) H69 ?_
    clear H69; intro a70 H70
    refine htake 14 rfl (by kernel_rfl) (y_pick_f rfl rfl rfl) rfl rfl rfl (fun _ h => h.subA) H70 ?_
    clear H70; intro a71 H71
    refine htake 15 rfl (by kernel_rfl) (y_move rfl rfl) rfl rfl rfl (fun _ h => h.subA) H71 ?_
    clear H71; intro a72 H72
    have H74 := H72.know (d := 71) (v := .bool false) rfl ((by first | exact congrArg Value.bool (decide_eq_false (by omega)) | rfl | exact congrArg Value.bool (decide_eq_false (fun z => z rfl)) | exact congrArg Value.bool (decide_eq_false (by first | decide | omega))))
    clear H72
    refine htake 16 rfl (by kernel_rfl) (y_move rfl rfl) rfl rfl rfl (fun _ h => h.subA) H74 ?_
    clear H74; intro a75 H75
    refine htake 18 rfl (by kernel_rfl) (y_move rfl rfl) rfl rfl rfl (fun _ h => h.subA) H75 ?_
    clear H75; intro a76 H76
    refine hgo 17 rfl (by kernel_rfl) ?_
    refine st_callg rfl z_call18 rfl rfl rfl rfl H76 (tfinal X2 hg2.wf hg2.pos hg2.len dp de2 c v2 u2 (by unfold Note.I64; omega) h1.1 (H76.sep.all _ MM) (H76.sep.all _ MM)) ?_
    clear H76; intro a77 wx77 H77
    refine hfinA H77.sep ?_
    refine hgo 19 rfl (by kernel_rfl) ?_
    refine st_callg rfl z_call26 rfl rfl rfl rfl H77 (rcfinal Y2 hY2W (by omega) (by omega) dp de2 rx vx2 (by unfold Note.I64; omega) h1.1 (H77.sep.all _ MM) (H77.sep.all _ MM)) ?_
    clear H77; intro a78 wx78 H78
    refine hfinA H78.sep ?_
    refine htake 20 rfl (by kernel_rfl) (y_neq rfl rfl rfl) rfl rfl rfl (fun _ h => h.subA) H78 ?_
    clear H78; intro a79 H79
    refine htake 21 rfl (by kernel_rfl) (y_pick_f rfl rfl rfl) rfl rfl rfl (fun _ h => h.subA) H79 ?_
    clear H79; intro a80 H80
    refine htake 22 rfl (by kernel_rfl) (y_move rfl rfl) rfl rfl rfl (fun _ h => h.subA) H80 ?_
    clear H80; intro a81 H81
    have H83 := H81.know (d := 78) (v := .bool false) rfl ((by first | exact congrArg Value.bool (decide_eq_false (fun z => z (Tree.fin_eq hdx))) | rfl | exact congrArg Value.bool (decide_eq_false (fun z => z rfl)) | exact congrArg Value.bool (decide_eq_false (by first | decide | omega))))
    clear H81
    refine htake 23 rfl (by kernel_rfl) (y_move rfl rfl) rfl rfl rfl (fun _ h => h.subA) H83 ?_
    clear H83; intro a84 H84
    refine htake 25 rfl (by kernel_rfl) (y_move rfl rfl) rfl rfl rfl (fun _ h => h.subA) H84 ?_
    clear H84; intro a85 H85
    refine htake 26 rfl (by kernel_rfl) (y_nilCheck rfl rfl) rfl rfl rfl (fun _ h => h.subA) H85 ?_
    clear H85; intro a86 H86
    refine htake 27 rfl (by kernel_rfl) (y_fieldB rfl z_field56_2 rfl (by first | (simp only [Nat.zero_add, Nat.add_zero, Nat.reduceAdd]; rfl) | rfl)) rfl rfl rfl (fun _ h => h.subA) H86 ?_
    clear H86; intro a87 H87
    refine hgo2 24 28 rfl rfl (by kernel_rfl) ?_ ?_
    ·skip
     refine st_callg rfl z_call20 rfl rfl rfl rfl H87 (tdeepest dp de2 c v2 u2 (H87.sep.all _ MM)) ?_
     clear H87; intro a88 wx88 H88
     refine hfinA H88.sep ?_
     refine hgo 28 rfl (by kernel_rfl) ?_
     refine plain (y_loadB rfl z_agg3 rfl MM q_ix_c3_2) rfl rfl rfl H88 ?_
     clear H88; intro a89 H89
     refine hfinA H89.sep ?_
     refine htake 29 rfl (by kernel_rfl) (y_neq rfl rfl rfl) rfl rfl rfl (fun _ h => h.subA) H89 ?_
     clear H89; intro a90 H90
     refine htake 30 rfl (by kernel_rfl) (y_pick_f rfl rfl rfl) rfl rfl rfl (fun _ h => h.subA) H90 ?_
     clear H90; intro a91 H91
     refine hdone (by kernel_rfl) ?_
     refine then_n ?_
     refine cnd H91 rfl (fun hc92 => ?_) (fun hc92 => ?_) -- cond 4
     ·(try simp only [decide_eq_true_eq, decide_eq_false_iff_not, Bool.not_eq_true', Bool.not_eq_false', Bool.and_eq_true, Bool.not_eq_true, Bool.not_eq_false] at hc92); (exfalso; first | exact hc92 rfl | (simp at hc92))
     ·skip
      try simp only [decide_eq_true_eq, decide_eq_false_iff_not, Bool.not_eq_true', Bool.not_eq_false', Bool.and_eq_true, Bool.not_eq_true, Bool.not_eq_false] at hc92
      refine wp_skip ?_
      refine inb_n ?_
      refine then_n ?_
      refine reg ?_
      refine plain (y_move rfl rfl) rfl rfl rfl H91 ?_
      clear H91; intro a93 H93
      refine plain (y_add rfl rfl rfl (by first | exact w64 (by omega) (by omega) | rfl)) rfl rfl rfl H93 ?_
      clear H93; intro a94 H94
      refine plain (y_assign rfl rfl) rfl rfl rfl H94 ?_
      clear H94; intro a95 H95
      refine fin ?_
      refine then_n ?_
      exact ⟨(k + 1, (X2, (de2, (v2, (u2, (Y2, vx2)))))), by dsimp only; omega, ⟨by dsimp only; omega, hg2, hdx, hQ2⟩, ((H95.only (is := [It.row 26 35 v2 X2.length (Inbox.bc X2), It.row 23 32 u2 X2.length (hc (Tree.hashes (Tree.bl X2))), It.blk c 77 [v2, u2, i64 dp, i64 de2], (Tree.It.fz X2), It.row 26 35 vx2 Y2.length (Inbox.bc Y2), It.blk rx 56 [vx2, i64 dp, i64 de2]]) (.cons PP (.cons PP (.cons PP (.cons PP (.cons PP (.cons PP (.nil _))))))))).weak ⟨rfl, rfl, rfl, rfl, fi rfl (by omega), trivial⟩ rfl⟩
    ·skip
     refine plain (y_loadB rfl z_agg3 rfl MM q_ix_c3_2) rfl rfl rfl H87 ?_
     clear H87; intro a96 H96
     refine hfinA H96.sep ?_
     refine hgo 24 rfl (by kernel_rfl) ?_
     refine st_callg rfl z_call20 rfl rfl rfl rfl H96 (tdeepest dp de2 c v2 u2 (H96.sep.all _ MM)) ?_
     clear H96; intro a97 wx97 H97
     refine hfinA H97.sep ?_
     refine htake 29 rfl (by kernel_rfl) (y_neq rfl rfl rfl) rfl rfl rfl (fun _ h => h.subA) H97 ?_
     clear H97; intro a98 H98
     refine htake 30 rfl (by kernel_rfl) (y_pick_f rfl rfl rfl) rfl rfl rfl (fun _ h => h.subA) H98 ?_
     clear H98; intro a99 H99
     refine hdone (by kernel_rfl) ?_
     refine then_n ?_
     refine cnd H99 rfl (fun hc100 => ?_) (fun hc100 => ?_) -- cond 5
     ·(try simp only [decide_eq_true_eq, decide_eq_false_iff_not, Bool.not_eq_true', Bool.not_eq_false', Bool.and_eq_true, Bool.not_eq_true, Bool.not_eq_false] at hc100); (exfalso; first | exact hc100 rfl | (simp at hc100))
     ·skip
      try simp only [decide_eq_true_eq, decide_eq_false_iff_not, Bool.not_eq_true', Bool.not_eq_false', Bool.and_eq_true, Bool.not_eq_true, Bool.not_eq_false] at hc100
      refine wp_skip ?_
      refine inb_n ?_
      refine then_n ?_
      refine reg ?_
      refine plain (y_move rfl rfl) rfl rfl rfl H99 ?_
      clear H99; intro a101 H101
      refine plain (y_add rfl rfl rfl (by first | exact w64 (by omega) (by omega) | rfl)) rfl rfl rfl H101 ?_
      clear H101; intro a102 H102
      refine plain (y_assign rfl rfl) rfl rfl rfl H102 ?_
      clear H102; intro a103 H103
      refine fin ?_
      refine then_n ?_
      exact ⟨(k + 1, (X2, (de2, (v2, (u2, (Y2, vx2)))))), by dsimp only; omega, ⟨by dsimp only; omega, hg2, hdx, hQ2⟩, ((H103.only (is := [It.row 26 35 v2 X2.length (Inbox.bc X2), It.row 23 32 u2 X2.length (hc (Tree.hashes (Tree.bl X2))), It.blk c 77 [v2, u2, i64 dp, i64 de2], (Tree.It.fz X2), It.row 26 35 vx2 Y2.length (Inbox.bc Y2), It.blk rx 56 [vx2, i64 dp, i64 de2]]) (.cons PP (.cons PP (.cons PP (.cons PP (.cons PP (.cons PP (.nil _))))))))).weak ⟨rfl, rfl, rfl, rfl, fi rfl (by omega), trivial⟩ rfl⟩
   ·skip
    try simp only [decide_eq_true_eq, decide_eq_false_iff_not, Bool.not_eq_true', Bool.not_eq_false', Bool.and_eq_true, Bool.not_eq_true, Bool.not_eq_false] at hc55
    refine wp_exit ?_
    refine then_x ?_
    refine then_x ?_
    refine inb_hit ?_
    refine then_n ?_
    refine wp_seq ?_
    refine wp_seq ?_
    refine wp_cut (fun aC wC => St Tryd.f7.ntmps [] w ([(2, .int .i64 n), (7, .pointer (some ⟨c, 0, none⟩)), (9, .pointer (some ⟨rx, 0, none⟩)), (131, .bool false)]) ([It.row 26 35 v1 X.length (Inbox.bc X), It.row 23 32 u1 X.length (hc (Tree.hashes (Tree.bl X))), It.blk c 77 [v1, u1, i64 dp, i64 de], (Tree.It.fz X), It.row 26 35 (.slice A5 Y.length c5) Y.length (Inbox.bc Y), It.blk rx 56 [(.slice A5 Y.length c5), i64 dp, i64 de]]) aC wC) ?_ ?_
    ·skip
     refine hreg [It.row 26 35 (.slice A5 Y.length c5) Y.length (Inbox.bc Y), It.blk rx 56 [(.slice A5 Y.length c5), i64 dp, i64 de]] (fun _ h => h.subA) (by kernel_rfl) H54 ?_
     clear H54; intro wx104 H104
     refine htake 0 rfl (by kernel_rfl) (y_move rfl rfl) rfl rfl rfl (fun _ h => h.subA) H104 ?_
     clear H104; intro a105 H105
     refine htake 1 rfl (by kernel_rfl) (y_move rfl rfl) rfl rfl rfl (fun _ h => h.subA) H105 ?_
     clear H105; intro a106 H106
     refine htake 4 rfl (by kernel_rfl) (y_move rfl rfl) rfl rfl rfl (fun _ h => h.subA) H106 ?_
     clear H106; intro a107 H107
     refine htake 5 rfl (by kernel_rfl) (y_nilCheck rfl rfl) rfl rfl rfl (fun _ h => h.subA) H107 ?_
     clear H107; intro a108 H108
     refine htake 6 rfl (by kernel_rfl) (y_fieldB rfl z_field56_0 rfl (by first | (simp only [Nat.zero_add, Nat.add_zero, Nat.reduceAdd]; rfl) | rfl)) rfl rfl rfl (fun _ h => h.subA) H108 ?_
     clear H108; intro a109 H109
     refine htake 7 rfl (by kernel_rfl) (y_loadB rfl z_agg36 rfl MM q_ix_c3_0) rfl rfl rfl (fun _ h => h.subA) H109 ?_
     clear H109; intro a110 H110
     refine hgo 2 rfl (by kernel_rfl) ?_
     refine st_callg rfl z_call21 rfl rfl rfl rfl H110 (theight X hg.wf hg.pos hg.len dp de c v1 u1 (H110.sep.all _ MM) (H110.sep.all _ MM)) ?_
     clear H110; intro a111 wx111 H111
     refine hfinA H111.sep ?_
     refine hgo 3 rfl (by kernel_rfl) ?_
     refine st_call rfl z_call17 rfl rfl rfl rfl H111 (tupto X hg.wf hg.pos hg.len dp de c v1 u1 hg.small ((X.length : Int) - 1) (by have := hg.len; have := hg.pos; unfold Note.I64; omega) (H111.sep.all _ MM) (H111.sep.all _ MM) (H111.sep.all _ MM)) ?_
     clear H111; intro v112 l112 a112 wx112 hf112 H112
     obtain ⟨N, ⟨hN, hNW⟩, rfl⟩ := hf112
     simp only [List.cons_append, List.nil_append] at H112
     obtain ⟨A7, c7, rfl, hR7, hm7⟩ := row_shape (v := v112) H112.sep MM
     have hcap7 := row_cap (A := A7) (c := c7) H112.sep MM
     have hNb := Tree.take_all rfl hg.pos hN
     have hNl := Tree.len_bl hNb
     refine hfinA H112.sep ?_
     refine hgo 8 rfl (by kernel_rfl) ?_
     refine st_callg rfl z_call19 rfl rfl rfl rfl H112 (rall N Y hNW hYW (hXY.trans hNb.symm) A7 A5 c7 c5 (by omega) (Rd.ofSep (rd_row MM) H112.sep) (Rd.ofSep (rd_row MM) H112.sep) (fun x hx => Tree.rd_fz MM hx _ H112.sep) (fun y hy => Rd.frm (hQ y hy).2 H112.sep.frm (by simp))) ?_
     clear H112; intro a113 wx113 H113
     refine hfinA H113.sep ?_
     refine htake 9 rfl (by kernel_rfl) (y_not rfl rfl) rfl rfl rfl (fun _ h => h.subA) H113 ?_
     clear H113; intro a114 H114
     refine htake 10 rfl (by kernel_rfl) (y_move rfl rfl) rfl rfl rfl (fun _ h => h.subA) H114 ?_
     clear H114; intro a115 H115
     refine htake 11 rfl (by kernel_rfl) (y_move rfl rfl) rfl rfl rfl (fun _ h => h.subA) H115 ?_
     clear H115; intro a116 H116
     refine htake 12 rfl (by kernel_rfl) (y_geq rfl rfl rfl) rfl rfl rfl (fun _ h => h.subA) H116 ?_
     clear H116; intro a117 H117
     refine htake 13 rfl (by kernel_rfl) (y_move rfl rfl) rfl rfl rfl (fun _ h => h.subA) H117 ?_
     clear H117; intro a118 H118
     refine Sx.part (d := 100) H118 rfl (fun hg119 => ?_) (fun hg119 => ?_)
     ·first
      |fail
      |skip
       clear H118; intro H120
       try simp only [decide_eq_true_eq, decide_eq_false_iff_not, Bool.not_eq_true', Bool.not_eq_false', Bool.and_eq_true, Bool.not_eq_true, Bool.not_eq_false] at hg119
       refine htake 14 rfl (by kernel_rfl) (y_move rfl rfl) rfl rfl rfl (fun _ h => h.subA) H120 ?_
       clear H120; intro a121 H121
       refine htake 15 rfl (by kernel_rfl) (y_move rfl rfl) rfl rfl rfl (fun _ h => h.subA) H121 ?_
       clear H121; intro a122 H122
       refine hgo 16 rfl (by kernel_rfl) ?_
       refine st_callg rfl z_call25 rfl rfl rfl rfl H122 (rcheight Y hYW (by omega) (by omega) dp de rx (.slice A5 Y.length c5) (H122.sep.all _ MM) (H122.sep.all _ MM)) ?_
       clear H122; intro a123 wx123 H123
       refine hfinA H123.sep ?_
       refine htake 17 rfl (by kernel_rfl) (y_lss rfl rfl rfl) rfl rfl rfl (fun _ h => h.subA) H123 ?_
       clear H123; intro a124 H124
       refine htake 18 rfl (by kernel_rfl) (y_pick_t rfl rfl rfl) rfl rfl rfl (fun _ h => h.subA) H124 ?_
       clear H124; intro a125 H125
       refine htake 19 rfl (by kernel_rfl) (y_move rfl rfl) rfl rfl rfl (fun _ h => h.subA) H125 ?_
       clear H125; intro a126 H126
       refine Sx.part (d := 106) H126 rfl (fun hg127 => ?_) (fun hg127 => ?_)
       ·first
        |fail
        |skip
         clear H126; intro H128
         try simp only [decide_eq_true_eq, decide_eq_false_iff_not, Bool.not_eq_true', Bool.not_eq_false', Bool.and_eq_true, Bool.not_eq_true, Bool.not_eq_false] at hg127
         refine htake 20 rfl (by kernel_rfl) (y_move rfl rfl) rfl rfl rfl (fun _ h => h.subA) H128 ?_
         clear H128; intro a129 H129
         refine htake 21 rfl (by kernel_rfl) (y_move rfl rfl) rfl rfl rfl (fun _ h => h.subA) H129 ?_
         clear H129; intro a130 H130
         refine htake 23 rfl (by kernel_rfl) (y_move rfl rfl) rfl rfl rfl (fun _ h => h.subA) H130 ?_
         clear H130; intro a131 H131
         refine htake 24 rfl (by kernel_rfl) (y_nilCheck rfl rfl) rfl rfl rfl (fun _ h => h.subA) H131 ?_
         clear H131; intro a132 H132
         refine htake 25 rfl (by kernel_rfl) (y_fieldB rfl z_field56_0 rfl (by first | (simp only [Nat.zero_add, Nat.add_zero, Nat.reduceAdd]; rfl) | rfl)) rfl rfl rfl (fun _ h => h.subA) H132 ?_
         clear H132; intro a133 H133
         refine htake 26 rfl (by kernel_rfl) (y_loadB rfl z_agg36 rfl MM q_ix_c3_0) rfl rfl rfl (fun _ h => h.subA) H133 ?_
         clear H133; intro a134 H134
         refine htake 27 rfl (by kernel_rfl) (y_move rfl rfl) rfl rfl rfl (fun _ h => h.subA) H134 ?_
         clear H134; intro a135 H135
         refine htake 28 rfl (by kernel_rfl) (y_add rfl rfl rfl (by first | exact w64 (by omega) (by omega) | rfl)) rfl rfl rfl (fun _ h => h.subA) H135 ?_
         clear H135; intro a136 H136
         refine htake 29 rfl (by kernel_rfl) (y_slS_hi rfl Tryd.underlying36 z_size26 rfl rfl (by omega) (by omega) (by omega)) rfl rfl rfl (fun _ h => h.subA) H136 ?_
         clear H136; intro a137 H137
         refine hgo 22 rfl (by kernel_rfl) ?_
         refine st_call rfl z_call17 rfl rfl rfl rfl H137 (tupto X hg.wf hg.pos hg.len dp de c v1 u1 hg.small n hn (H137.sep.all _ MM) (H137.sep.all _ MM) (H137.sep.all _ MM)) ?_
         clear H137; intro v138 l138 a138 wx138 hf138 H138
         obtain ⟨M, ⟨hM, hMW⟩, rfl⟩ := hf138
         simp only [List.cons_append, List.nil_append] at H138
         obtain ⟨A8, c8, rfl, hR8, hm8⟩ := row_shape (v := v138) H138.sep MM
         have hcap8 := row_cap (A := A8) (c := c8) H138.sep MM
         refine hfinA H138.sep ?_
         refine hgo 30 rfl (by kernel_rfl) ?_
         replace H138 := H138.know (d := 116) rfl (show _ = Value.slice A5 (Y.take (n + 1).toNat).length c5 from by rw [List.length_take, Nat.min_eq_left (by omega)])
         refine st_callg rfl z_call19 rfl rfl rfl rfl H138 (rall M (Y.take (n + 1).toNat) hMW (hYW.take _) (by rw [Tree.bl_take, hXY, hM]) A8 A5 c8 c5 (by have := congrArg List.length hM; rw [Tree.bl_len, List.length_take, Tree.bl_len] at this; omega) (Rd.ofSep (rd_row MM) H138.sep) (Tree.rd_pre hYW (Rd.ofSep (rd_row MM) H138.sep) _) (fun x hx => Tree.rd_fz MM hx _ H138.sep) (fun y hy => Rd.frm (hQ y (List.mem_of_mem_take hy)).2 H138.sep.frm (by simp))) ?_
         clear H138; intro a139 wx139 H139
         refine hfinA H139.sep ?_
         refine htake 31 rfl (by kernel_rfl) (y_not rfl rfl) rfl rfl rfl (fun _ h => h.subA) H139 ?_
         clear H139; intro a140 H140
         refine htake 32 rfl (by kernel_rfl) (y_pick_t rfl rfl rfl) rfl rfl rfl (fun _ h => h.subA) H140 ?_
         clear H140; intro a141 H141
         refine htake 33 rfl (by kernel_rfl) (y_pick_f rfl rfl rfl) rfl rfl rfl (fun _ h => h.subA) H141 ?_
         clear H141; intro a142 H142
         refine htake 34 rfl (by kernel_rfl) (y_move rfl rfl) rfl rfl rfl (fun _ h => h.subA) H142 ?_
         clear H142; intro a143 H143
         refine htake 35 rfl (by kernel_rfl) (y_move rfl rfl) rfl rfl rfl (fun _ h => h.subA) H143 ?_
         clear H143; intro a144 H144
         refine htake 36 rfl (by kernel_rfl) (y_lss rfl rfl rfl) rfl rfl rfl (fun _ h => h.subA) H144 ?_
         clear H144; intro a145 H145
         refine htake 37 rfl (by kernel_rfl) (y_move rfl rfl) rfl rfl rfl (fun _ h => h.subA) H145 ?_
         clear H145; intro a146 H146
         refine Sx.part (d := 124) H146 rfl (fun hg147 => ?_) (fun hg147 => ?_)
         ·first
          |fail
          |skip
           clear H146; intro H148
           try simp only [decide_eq_true_eq, decide_eq_false_iff_not, Bool.not_eq_true', Bool.not_eq_false', Bool.and_eq_true, Bool.not_eq_true, Bool.not_eq_false] at hg147
           refine htake 38 rfl (by kernel_rfl) (y_move rfl rfl) rfl rfl rfl (fun _ h => h.subA) H148 ?_
           clear H148; intro a149 H149
           refine htake 39 rfl (by kernel_rfl) (y_move rfl rfl) rfl rfl rfl (fun _ h => h.subA) H149 ?_
           clear H149; intro a150 H150
           refine hgo 40 rfl (by kernel_rfl) ?_
           refine st_call rfl z_call17 rfl rfl rfl rfl H150 (tupto X hg.wf hg.pos hg.len dp de c v1 u1 hg.small n hn (H150.sep.all _ MM) (H150.sep.all _ MM) (H150.sep.all _ MM)) ?_
           clear H150; intro v151 l151 a151 wx151 hf151 H151
           obtain ⟨P, ⟨hP, hPW⟩, rfl⟩ := hf151
           simp only [List.cons_append, List.nil_append] at H151
           obtain ⟨A9, c9, rfl, hR9, hm9⟩ := row_shape (v := v151) H151.sep MM
           have hcap9 := row_cap (A := A9) (c := c9) H151.sep MM
           have hPl : P.length = 0 := by have := congrArg List.length hP; rw [Tree.bl_len, List.length_take] at this; omega
           refine hfinA H151.sep ?_
           refine htake 41 rfl (by kernel_rfl) (y_len rfl Tryd.underlying36 rfl) rfl rfl rfl (fun _ h => h.subA) H151 ?_
           clear H151; intro a152 H152
           refine htake 42 rfl (by kernel_rfl) (y_neq rfl rfl rfl) rfl rfl rfl (fun _ h => h.subA) H152 ?_
           clear H152; intro a153 H153
           refine htake 43 rfl (by kernel_rfl) (y_pick_t rfl rfl rfl) rfl rfl rfl (fun _ h => h.subA) H153 ?_
           clear H153; intro a154 H154
           refine htake 44 rfl (by kernel_rfl) (y_pick_f rfl rfl rfl) rfl rfl rfl (fun _ h => h.subA) H154 ?_
           clear H154; intro a155 H155
           refine hdone (by kernel_rfl) ?_
           refine cut_n ?_
           first | (exfalso; omega) | exact ((H155.only (is := [It.row 26 35 v1 X.length (Inbox.bc X), It.row 23 32 u1 X.length (hc (Tree.hashes (Tree.bl X))), It.blk c 77 [v1, u1, i64 dp, i64 de], (Tree.It.fz X), It.row 26 35 (.slice A5 Y.length c5) Y.length (Inbox.bc Y), It.blk rx 56 [(.slice A5 Y.length c5), i64 dp, i64 de]]) (.cons PP (.cons PP (.cons PP (.cons PP (.cons PP (.cons PP (.nil _))))))))).weak ⟨rfl, rfl, rfl, rfl, trivial⟩ rfl | (replace H155 := H155.know (d := 131) rfl (congrArg Value.bool (decide_eq_false (by omega))); exact ((H155.only (is := [It.row 26 35 v1 X.length (Inbox.bc X), It.row 23 32 u1 X.length (hc (Tree.hashes (Tree.bl X))), It.blk c 77 [v1, u1, i64 dp, i64 de], (Tree.It.fz X), It.row 26 35 (.slice A5 Y.length c5) Y.length (Inbox.bc Y), It.blk rx 56 [(.slice A5 Y.length c5), i64 dp, i64 de]]) (.cons PP (.cons PP (.cons PP (.cons PP (.cons PP (.cons PP (.nil _))))))))).weak ⟨rfl, rfl, rfl, rfl, trivial⟩ rfl)
         ·first
          |fail
          |skip
           clear H146; intro H156
           try simp only [decide_eq_true_eq, decide_eq_false_iff_not, Bool.not_eq_true', Bool.not_eq_false', Bool.and_eq_true, Bool.not_eq_true, Bool.not_eq_false] at hg147
           refine hskip 38 rfl (by kernel_rfl) rfl rfl rfl (fun _ h => h.subA) H156 ?_
           clear H156; intro a157 H157
           refine hskip 39 rfl (by kernel_rfl) rfl rfl rfl (fun _ h => h.subA) H157 ?_
           clear H157; intro a158 H158
           refine hskip 40 rfl (by kernel_rfl) rfl rfl rfl (fun _ h => h.subA) H158 ?_
           clear H158; intro a159 H159
           refine hskip 41 rfl (by kernel_rfl) rfl rfl rfl (fun _ h => h.subA) H159 ?_
           clear H159; intro a160 H160
           refine hskip 42 rfl (by kernel_rfl) rfl rfl rfl (fun _ h => h.subA) H160 ?_
           clear H160; intro a161 H161
           refine htake 43 rfl (by kernel_rfl) (y_pick_f rfl rfl rfl) rfl rfl rfl (fun _ h => h.subA) H161 ?_
           clear H161; intro a162 H162
           refine htake 44 rfl (by kernel_rfl) (y_pick_f rfl rfl rfl) rfl rfl rfl (fun _ h => h.subA) H162 ?_
           clear H162; intro a163 H163
           refine hdone (by kernel_rfl) ?_
           refine cut_n ?_
           first | (exfalso; omega) | exact ((H163.only (is := [It.row 26 35 v1 X.length (Inbox.bc X), It.row 23 32 u1 X.length (hc (Tree.hashes (Tree.bl X))), It.blk c 77 [v1, u1, i64 dp, i64 de], (Tree.It.fz X), It.row 26 35 (.slice A5 Y.length c5) Y.length (Inbox.bc Y), It.blk rx 56 [(.slice A5 Y.length c5), i64 dp, i64 de]]) (.cons PP (.cons PP (.cons PP (.cons PP (.cons PP (.cons PP (.nil _))))))))).weak ⟨rfl, rfl, rfl, rfl, trivial⟩ rfl | (replace H163 := H163.know (d := 131) rfl (congrArg Value.bool (decide_eq_false (by omega))); exact ((H163.only (is := [It.row 26 35 v1 X.length (Inbox.bc X), It.row 23 32 u1 X.length (hc (Tree.hashes (Tree.bl X))), It.blk c 77 [v1, u1, i64 dp, i64 de], (Tree.It.fz X), It.row 26 35 (.slice A5 Y.length c5) Y.length (Inbox.bc Y), It.blk rx 56 [(.slice A5 Y.length c5), i64 dp, i64 de]]) (.cons PP (.cons PP (.cons PP (.cons PP (.cons PP (.cons PP (.nil _))))))))).weak ⟨rfl, rfl, rfl, rfl, trivial⟩ rfl)
       ·first
        |fail
        |skip
         clear H126; intro H164
         try simp only [decide_eq_true_eq, decide_eq_false_iff_not, Bool.not_eq_true', Bool.not_eq_false', Bool.and_eq_true, Bool.not_eq_true, Bool.not_eq_false] at hg127
         refine hskip 20 rfl (by kernel_rfl) rfl rfl rfl (fun _ h => h.subA) H164 ?_
         clear H164; intro a165 H165
         refine hskip 21 rfl (by kernel_rfl) rfl rfl rfl (fun _ h => h.subA) H165 ?_
         clear H165; intro a166 H166
         refine hskip 23 rfl (by kernel_rfl) rfl rfl rfl (fun _ h => h.subA) H166 ?_
         clear H166; intro a167 H167
         refine hskip 24 rfl (by kernel_rfl) rfl rfl rfl (fun _ h => h.subA) H167 ?_
         clear H167; intro a168 H168
         refine hskip 25 rfl (by kernel_rfl) rfl rfl rfl (fun _ h => h.subA) H168 ?_
         clear H168; intro a169 H169
         refine hskip 26 rfl (by kernel_rfl) rfl rfl rfl (fun _ h => h.subA) H169 ?_
         clear H169; intro a170 H170
         refine hskip 27 rfl (by kernel_rfl) rfl rfl rfl (fun _ h => h.subA) H170 ?_
         clear H170; intro a171 H171
         refine hskip 28 rfl (by kernel_rfl) rfl rfl rfl (fun _ h => h.subA) H171 ?_
         clear H171; intro a172 H172
         refine hskip 29 rfl (by kernel_rfl) rfl rfl rfl (fun _ h => h.subA) H172 ?_
         clear H172; intro a173 H173
         refine hskip 22 rfl (by kernel_rfl) rfl rfl rfl (fun _ h => h.subA) H173 ?_
         clear H173; intro a174 H174
         refine hskip 30 rfl (by kernel_rfl) rfl rfl rfl (fun _ h => h.subA) H174 ?_
         clear H174; intro a175 H175
         refine hskip 31 rfl (by kernel_rfl) rfl rfl rfl (fun _ h => h.subA) H175 ?_
         clear H175; intro a176 H176
         refine htake 32 rfl (by kernel_rfl) (y_pick_f rfl rfl rfl) rfl rfl rfl (fun _ h => h.subA) H176 ?_
         clear H176; intro a177 H177
         refine htake 33 rfl (by kernel_rfl) (y_pick_f rfl rfl rfl) rfl rfl rfl (fun _ h => h.subA) H177 ?_
         clear H177; intro a178 H178
         refine htake 34 rfl (by kernel_rfl) (y_move rfl rfl) rfl rfl rfl (fun _ h => h.subA) H178 ?_
         clear H178; intro a179 H179
         refine htake 35 rfl (by kernel_rfl) (y_move rfl rfl) rfl rfl rfl (fun _ h => h.subA) H179 ?_
         clear H179; intro a180 H180
         refine htake 36 rfl (by kernel_rfl) (y_lss rfl rfl rfl) rfl rfl rfl (fun _ h => h.subA) H180 ?_
         clear H180; intro a181 H181
         refine htake 37 rfl (by kernel_rfl) (y_move rfl rfl) rfl rfl rfl (fun _ h => h.subA) H181 ?_
         clear H181; intro a182 H182
         refine Sx.part (d := 124) H182 rfl (fun hg183 => ?_) (fun hg183 => ?_)
         ·first
          |fail
          |skip
           clear H182; intro H184
           try simp only [decide_eq_true_eq, decide_eq_false_iff_not, Bool.not_eq_true', Bool.not_eq_false', Bool.and_eq_true, Bool.not_eq_true, Bool.not_eq_false] at hg183
           refine htake 38 rfl (by kernel_rfl) (y_move rfl rfl) rfl rfl rfl (fun _ h => h.subA) H184 ?_
           clear H184; intro a185 H185
           refine htake 39 rfl (by kernel_rfl) (y_move rfl rfl) rfl rfl rfl (fun _ h => h.subA) H185 ?_
           clear H185; intro a186 H186
           refine hgo 40 rfl (by kernel_rfl) ?_
           refine st_call rfl z_call17 rfl rfl rfl rfl H186 (tupto X hg.wf hg.pos hg.len dp de c v1 u1 hg.small n hn (H186.sep.all _ MM) (H186.sep.all _ MM) (H186.sep.all _ MM)) ?_
           clear H186; intro v187 l187 a187 wx187 hf187 H187
           obtain ⟨P, ⟨hP, hPW⟩, rfl⟩ := hf187
           simp only [List.cons_append, List.nil_append] at H187
           obtain ⟨A9, c9, rfl, hR9, hm9⟩ := row_shape (v := v187) H187.sep MM
           have hcap9 := row_cap (A := A9) (c := c9) H187.sep MM
           have hPl : P.length = 0 := by have := congrArg List.length hP; rw [Tree.bl_len, List.length_take] at this; omega
           refine hfinA H187.sep ?_
           refine htake 41 rfl (by kernel_rfl) (y_len rfl Tryd.underlying36 rfl) rfl rfl rfl (fun _ h => h.subA) H187 ?_
           clear H187; intro a188 H188
           refine htake 42 rfl (by kernel_rfl) (y_neq rfl rfl rfl) rfl rfl rfl (fun _ h => h.subA) H188 ?_
           clear H188; intro a189 H189
           refine htake 43 rfl (by kernel_rfl) (y_pick_t rfl rfl rfl) rfl rfl rfl (fun _ h => h.subA) H189 ?_
           clear H189; intro a190 H190
           refine htake 44 rfl (by kernel_rfl) (y_pick_f rfl rfl rfl) rfl rfl rfl (fun _ h => h.subA) H190 ?_
           clear H190; intro a191 H191
           refine hdone (by kernel_rfl) ?_
           refine cut_n ?_
           first | (exfalso; omega) | exact ((H191.only (is := [It.row 26 35 v1 X.length (Inbox.bc X), It.row 23 32 u1 X.length (hc (Tree.hashes (Tree.bl X))), It.blk c 77 [v1, u1, i64 dp, i64 de], (Tree.It.fz X), It.row 26 35 (.slice A5 Y.length c5) Y.length (Inbox.bc Y), It.blk rx 56 [(.slice A5 Y.length c5), i64 dp, i64 de]]) (.cons PP (.cons PP (.cons PP (.cons PP (.cons PP (.cons PP (.nil _))))))))).weak ⟨rfl, rfl, rfl, rfl, trivial⟩ rfl | (replace H191 := H191.know (d := 131) rfl (congrArg Value.bool (decide_eq_false (by omega))); exact ((H191.only (is := [It.row 26 35 v1 X.length (Inbox.bc X), It.row 23 32 u1 X.length (hc (Tree.hashes (Tree.bl X))), It.blk c 77 [v1, u1, i64 dp, i64 de], (Tree.It.fz X), It.row 26 35 (.slice A5 Y.length c5) Y.length (Inbox.bc Y), It.blk rx 56 [(.slice A5 Y.length c5), i64 dp, i64 de]]) (.cons PP (.cons PP (.cons PP (.cons PP (.cons PP (.cons PP (.nil _))))))))).weak ⟨rfl, rfl, rfl, rfl, trivial⟩ rfl)
         ·first
          |fail
          |skip
           clear H182; intro H192
           try simp only [decide_eq_true_eq, decide_eq_false_iff_not, Bool.not_eq_true', Bool.not_eq_false', Bool.and_eq_true, Bool.not_eq_true, Bool.not_eq_false] at hg183
           refine hskip 38 rfl (by kernel_rfl) rfl rfl rfl (fun _ h => h.subA) H192 ?_
           clear H192; intro a193 H193
           refine hskip 39 rfl (by kernel_rfl) rfl rfl rfl (fun _ h => h.subA) H193 ?_
           clear H193; intro a194 H194
           refine hskip 40 rfl (by kernel_rfl) rfl rfl rfl (fun _ h => h.subA) H194 ?_
           clear H194; intro a195 H195
           refine hskip 41 rfl (by kernel_rfl) rfl rfl rfl (fun _ h => h.subA) H195 ?_
           clear H195; intro a196 H196
           refine hskip 42 rfl (by kernel_rfl) rfl rfl rfl (fun _ h => h.subA) H196 ?_
           clear H196; intro a197 H197
           refine htake 43 rfl (by kernel_rfl) (y_pick_f rfl rfl rfl) rfl rfl rfl (fun _ h => h.subA) H197 ?_
           clear H197; intro a198 H198
           refine htake 44 rfl (by kernel_rfl) (y_pick_f rfl rfl rfl) rfl rfl rfl (fun _ h => h.subA) H198 ?_
           clear H198; intro a199 H199
           refine hdone (by kernel_rfl) ?_
           refine cut_n ?_
           first | (exfalso; omega) | exact ((H199.only (is := [It.row 26 35 v1 X.length (Inbox.bc X), It.row 23 32 u1 X.length (hc (Tree.hashes (Tree.bl X))), It.blk c 77 [v1, u1, i64 dp, i64 de], (Tree.It.fz X), It.row 26 35 (.slice A5 Y.length c5) Y.length (Inbox.bc Y), It.blk rx 56 [(.slice A5 Y.length c5), i64 dp, i64 de]]) (.cons PP (.cons PP (.cons PP (.cons PP (.cons PP (.cons PP (.nil _))))))))).weak ⟨rfl, rfl, rfl, rfl, trivial⟩ rfl | (replace H199 := H199.know (d := 131) rfl (congrArg Value.bool (decide_eq_false (by omega))); exact ((H199.only (is := [It.row 26 35 v1 X.length (Inbox.bc X), It.row 23 32 u1 X.length (hc (Tree.hashes (Tree.bl X))), It.blk c 77 [v1, u1, i64 dp, i64 de], (Tree.It.fz X), It.row 26 35 (.slice A5 Y.length c5) Y.length (Inbox.bc Y), It.blk rx 56 [(.slice A5 Y.length c5), i64 dp, i64 de]]) (.cons PP (.cons PP (.cons PP (.cons PP (.cons PP (.cons PP (.nil _))))))))).weak ⟨rfl, rfl, rfl, rfl, trivial⟩ rfl)
     ·first
      |fail
      |skip
       clear H118; intro H200
       try simp only [decide_eq_true_eq, decide_eq_false_iff_not, Bool.not_eq_true', Bool.not_eq_false', Bool.and_eq_true, Bool.not_eq_true, Bool.not_eq_false] at hg119
       refine hskip 14 rfl (by kernel_rfl) rfl rfl rfl (fun _ h => h.subA) H200 ?_
       clear H200; intro a201 H201
       refine hskip 15 rfl (by kernel_rfl) rfl rfl rfl (fun _ h => h.subA) H201 ?_
       clear H201; intro a202 H202
       refine hskip 16 rfl (by kernel_rfl) rfl rfl rfl (fun _ h => h.subA) H202 ?_
       clear H202; intro a203 H203
       refine hskip 17 rfl (by kernel_rfl) rfl rfl rfl (fun _ h => h.subA) H203 ?_
       clear H203; intro a204 H204
       refine htake 18 rfl (by kernel_rfl) (y_pick_f rfl rfl rfl) rfl rfl rfl (fun _ h => h.subA) H204 ?_
       clear H204; intro a205 H205
       refine htake 19 rfl (by kernel_rfl) (y_move rfl rfl) rfl rfl rfl (fun _ h => h.subA) H205 ?_
       clear H205; intro a206 H206
       refine hskip 20 rfl (by kernel_rfl) rfl rfl rfl (fun _ h => h.subA) H206 ?_
       clear H206; intro a207 H207
       refine hskip 21 rfl (by kernel_rfl) rfl rfl rfl (fun _ h => h.subA) H207 ?_
       clear H207; intro a208 H208
       refine hskip 23 rfl (by kernel_rfl) rfl rfl rfl (fun _ h => h.subA) H208 ?_
       clear H208; intro a209 H209
       refine hskip 24 rfl (by kernel_rfl) rfl rfl rfl (fun _ h => h.subA) H209 ?_
       clear H209; intro a210 H210
       refine hskip 25 rfl (by kernel_rfl) rfl rfl rfl (fun _ h => h.subA) H210 ?_
       clear H210; intro a211 H211
       refine hskip 26 rfl (by kernel_rfl) rfl rfl rfl (fun _ h => h.subA) H211 ?_
       clear H211; intro a212 H212
       refine hskip 27 rfl (by kernel_rfl) rfl rfl rfl (fun _ h => h.subA) H212 ?_
       clear H212; intro a213 H213
       refine hskip 28 rfl (by kernel_rfl) rfl rfl rfl (fun _ h => h.subA) H213 ?_
       clear H213; intro a214 H214
       refine hskip 29 rfl (by kernel_rfl) rfl rfl rfl (fun _ h => h.subA) H214 ?_
       clear H214; intro a215 H215
       refine hskip 22 rfl (by kernel_rfl) rfl rfl rfl (fun _ h => h.subA) H215 ?_
       clear H215; intro a216 H216
       refine hskip 30 rfl (by kernel_rfl) rfl rfl rfl (fun _ h => h.subA) H216 ?_
       clear H216; intro a217 H217
       refine hskip 31 rfl (by kernel_rfl) rfl rfl rfl (fun _ h => h.subA) H217 ?_
       clear H217; intro a218 H218
       refine htake 32 rfl (by kernel_rfl) (y_pick_f rfl rfl rfl) rfl rfl rfl (fun _ h => h.subA) H218 ?_
       clear H218; intro a219 H219
       refine htake 33 rfl (by kernel_rfl) (y_pick_f rfl rfl rfl) rfl rfl rfl (fun _ h => h.subA) H219 ?_
       clear H219; intro a220 H220
       refine htake 34 rfl (by kernel_rfl) (y_move rfl rfl) rfl rfl rfl (fun _ h => h.subA) H220 ?_
       clear H220; intro a221 H221
       refine htake 35 rfl (by kernel_rfl) (y_move rfl rfl) rfl rfl rfl (fun _ h => h.subA) H221 ?_
       clear H221; intro a222 H222
       refine htake 36 rfl (by kernel_rfl) (y_lss rfl rfl rfl) rfl rfl rfl (fun _ h => h.subA) H222 ?_
       clear H222; intro a223 H223
       refine htake 37 rfl (by kernel_rfl) (y_move rfl rfl) rfl rfl rfl (fun _ h => h.subA) H223 ?_
       clear H223; intro a224 H224
       refine Sx.part (d := 124) H224 rfl (fun hg225 => ?_) (fun hg225 => ?_)
       ·first
        |fail
        |skip
         clear H224; intro H226
         try simp only [decide_eq_true_eq, decide_eq_false_iff_not, Bool.not_eq_true', Bool.not_eq_false', Bool.and_eq_true, Bool.not_eq_true, Bool.not_eq_false] at hg225
         refine htake 38 rfl (by kernel_rfl) (y_move rfl rfl) rfl rfl rfl (fun _ h => h.subA) H226 ?_
         clear H226; intro a227 H227
         refine htake 39 rfl (by kernel_rfl) (y_move rfl rfl) rfl rfl rfl (fun _ h => h.subA) H227 ?_
         clear H227; intro a228 H228
         refine hgo 40 rfl (by kernel_rfl) ?_
         refine st_call rfl z_call17 rfl rfl rfl rfl H228 (tupto X hg.wf hg.pos hg.len dp de c v1 u1 hg.small n hn (H228.sep.all _ MM) (H228.sep.all _ MM) (H228.sep.all _ MM)) ?_
         clear H228; intro v229 l229 a229 wx229 hf229 H229
         obtain ⟨P, ⟨hP, hPW⟩, rfl⟩ := hf229
         simp only [List.cons_append, List.nil_append] at H229
         obtain ⟨A9, c9, rfl, hR9, hm9⟩ := row_shape (v := v229) H229.sep MM
         have hcap9 := row_cap (A := A9) (c := c9) H229.sep MM
         have hPl : P.length = 0 := by have := congrArg List.length hP; rw [Tree.bl_len, List.length_take] at this; omega
         refine hfinA H229.sep ?_
         refine htake 41 rfl (by kernel_rfl) (y_len rfl Tryd.underlying36 rfl) rfl rfl rfl (fun _ h => h.subA) H229 ?_
         clear H229; intro a230 H230
         refine htake 42 rfl (by kernel_rfl) (y_neq rfl rfl rfl) rfl rfl rfl (fun _ h => h.subA) H230 ?_
         clear H230; intro a231 H231
         refine htake 43 rfl (by kernel_rfl) (y_pick_t rfl rfl rfl) rfl rfl rfl (fun _ h => h.subA) H231 ?_
         clear H231; intro a232 H232
         refine htake 44 rfl (by kernel_rfl) (y_pick_f rfl rfl rfl) rfl rfl rfl (fun _ h => h.subA) H232 ?_
         clear H232; intro a233 H233
         refine hdone (by kernel_rfl) ?_
         refine cut_n ?_
         first | (exfalso; omega) | exact ((H233.only (is := [It.row 26 35 v1 X.length (Inbox.bc X), It.row 23 32 u1 X.length (hc (Tree.hashes (Tree.bl X))), It.blk c 77 [v1, u1, i64 dp, i64 de], (Tree.It.fz X), It.row 26 35 (.slice A5 Y.length c5) Y.length (Inbox.bc Y), It.blk rx 56 [(.slice A5 Y.length c5), i64 dp, i64 de]]) (.cons PP (.cons PP (.cons PP (.cons PP (.cons PP (.cons PP (.nil _))))))))).weak ⟨rfl, rfl, rfl, rfl, trivial⟩ rfl | (replace H233 := H233.know (d := 131) rfl (congrArg Value.bool (decide_eq_false (by omega))); exact ((H233.only (is := [It.row 26 35 v1 X.length (Inbox.bc X), It.row 23 32 u1 X.length (hc (Tree.hashes (Tree.bl X))), It.blk c 77 [v1, u1, i64 dp, i64 de], (Tree.It.fz X), It.row 26 35 (.slice A5 Y.length c5) Y.length (Inbox.bc Y), It.blk rx 56 [(.slice A5 Y.length c5), i64 dp, i64 de]]) (.cons PP (.cons PP (.cons PP (.cons PP (.cons PP (.cons PP (.nil _))))))))).weak ⟨rfl, rfl, rfl, rfl, trivial⟩ rfl)
       ·first
        |fail
        |skip
         clear H224; intro H234
         try simp only [decide_eq_true_eq, decide_eq_false_iff_not, Bool.not_eq_true', Bool.not_eq_false', Bool.and_eq_true, Bool.not_eq_true, Bool.not_eq_false] at hg225
         refine hskip 38 rfl (by kernel_rfl) rfl rfl rfl (fun _ h => h.subA) H234 ?_
         clear H234; intro a235 H235
         refine hskip 39 rfl (by kernel_rfl) rfl rfl rfl (fun _ h => h.subA) H235 ?_
         clear H235; intro a236 H236
         refine hskip 40 rfl (by kernel_rfl) rfl rfl rfl (fun _ h => h.subA) H236 ?_
         clear H236; intro a237 H237
         refine hskip 41 rfl (by kernel_rfl) rfl rfl rfl (fun _ h => h.subA) H237 ?_
         clear H237; intro a238 H238
         refine hskip 42 rfl (by kernel_rfl) rfl rfl rfl (fun _ h => h.subA) H238 ?_
         clear H238; intro a239 H239
         refine htake 43 rfl (by kernel_rfl) (y_pick_f rfl rfl rfl) rfl rfl rfl (fun _ h => h.subA) H239 ?_
         clear H239; intro a240 H240
         refine htake 44 rfl (by kernel_rfl) (y_pick_f rfl rfl rfl) rfl rfl rfl (fun _ h => h.subA) H240 ?_
         clear H240; intro a241 H241
         refine hdone (by kernel_rfl) ?_
         refine cut_n ?_
         first | (exfalso; omega) | exact ((H241.only (is := [It.row 26 35 v1 X.length (Inbox.bc X), It.row 23 32 u1 X.length (hc (Tree.hashes (Tree.bl X))), It.blk c 77 [v1, u1, i64 dp, i64 de], (Tree.It.fz X), It.row 26 35 (.slice A5 Y.length c5) Y.length (Inbox.bc Y), It.blk rx 56 [(.slice A5 Y.length c5), i64 dp, i64 de]]) (.cons PP (.cons PP (.cons PP (.cons PP (.cons PP (.cons PP (.nil _))))))))).weak ⟨rfl, rfl, rfl, rfl, trivial⟩ rfl | (replace H241 := H241.know (d := 131) rfl (congrArg Value.bool (decide_eq_false (by omega))); exact ((H241.only (is := [It.row 26 35 v1 X.length (Inbox.bc X), It.row 23 32 u1 X.length (hc (Tree.hashes (Tree.bl X))), It.blk c 77 [v1, u1, i64 dp, i64 de], (Tree.It.fz X), It.row 26 35 (.slice A5 Y.length c5) Y.length (Inbox.bc Y), It.blk rx 56 [(.slice A5 Y.length c5), i64 dp, i64 de]]) (.cons PP (.cons PP (.cons PP (.cons PP (.cons PP (.cons PP (.nil _))))))))).weak ⟨rfl, rfl, rfl, rfl, trivial⟩ rfl)
    ·clear H54; intro a242 wx242 hI242
     have H242 := hI242
     refine then_n ?_
     refine cnd H242 rfl (fun hc243 => ?_) (fun hc243 => ?_) -- cond 6
     ·(try simp only [decide_eq_true_eq, decide_eq_false_iff_not, Bool.not_eq_true', Bool.not_eq_false', Bool.and_eq_true, Bool.not_eq_true, Bool.not_eq_false] at hc243); (exfalso; simp at hc243)
     ·skip
      try simp only [decide_eq_true_eq, decide_eq_false_iff_not, Bool.not_eq_true', Bool.not_eq_false', Bool.and_eq_true, Bool.not_eq_true, Bool.not_eq_false] at hc243
      refine wp_skip ?_
      refine then_n ?_
      refine wp_seq ?_
      have hBKp := Tree.bkAt_par hg.wf n
      refine reg ?_
      refine plain (y_move rfl rfl) rfl rfl rfl H242 ?_
      clear H242; intro a244 H244
      refine plain (y_move rfl rfl) rfl rfl rfl H244 ?_
      clear H244; intro a245 H245
      refine st_call rfl z_call27 rfl rfl rfl rfl H245 (tblock2 X hg.wf hg.pos hg.len dp de c v1 u1 hg.small n (H245.sep.all _ MM) (H245.sep.all _ MM) (H245.sep.all _ MM)) ?_
      clear H245; intro v246 l246 a246 wx246 hf246 H246
      obtain ⟨A', c', rfl, rfl⟩ := hf246
      simp only [List.cons_append, List.nil_append] at H246
      refine plain (y_move rfl rfl) rfl rfl rfl H246 ?_
      clear H246; intro a247 H247
      refine plain (y_extract rfl rfl rfl) rfl rfl rfl H247 ?_
      clear H247; intro a248 H248
      refine plain (y_extract rfl rfl rfl) rfl rfl rfl H248 ?_
      clear H248; intro a249 H249
      refine st_alloc rfl z_zeroN26 rfl rfl rfl H249 ?_
      clear H249; intro b250 a250 wx250 H250
      refine st_storeN rfl z_size26 rfl rfl (agg_cells _) UU (q_one_c2b32c1 rfl rfl rfl) (q_len_c2b32c1 (by first | assumption | exact Tree.hash_len _ | exact Tree.hhAt_len _ _)) (q_len_c2b32c1 (by first | assumption | exact Tree.hash_len _ | exact Tree.hhAt_len _ _)) (q_spl_c2b32c1_0_c2b32c1 (by first | assumption | exact Tree.hash_len _ | exact Tree.hhAt_len _ _) (by first | assumption | exact Tree.hash_len _ | exact Tree.hhAt_len _ _)) (by decide) rfl rfl H250 ?_
      clear H250; intro wx251 H251
      refine plain (y_assign rfl rfl) rfl rfl rfl H251 ?_
      clear H251; intro a252 H252
      refine fin ?_
      refine then_n ?_
      refine wp_seq ?_
      refine reg ?_
      refine plain (y_move rfl rfl) rfl rfl rfl H252 ?_
      clear H252; intro a253 H253
      refine plain (y_move rfl rfl) rfl rfl rfl H253 ?_
      clear H253; intro a254 H254
      refine st_callg rfl z_call22 rfl rfl rfl rfl H254 (thashn2 X hg.wf hg.pos hg.len dp de c v1 u1 n (H254.sep.all _ MM) (H254.sep.all _ MM) (H254.sep.all _ MM)) ?_
      clear H254; intro a255 wx255 H255
      refine plain (y_move rfl rfl) rfl rfl rfl H255 ?_
      clear H255; intro a256 H256
      refine plain (y_extract rfl rfl rfl) rfl rfl rfl H256 ?_
      clear H256; intro a257 H257
      refine plain (y_extract rfl rfl rfl) rfl rfl rfl H257 ?_
      clear H257; intro a258 H258
      refine st_alloc rfl z_zeroN23 rfl rfl rfl H258 ?_
      clear H258; intro b259 a259 wx259 H259
      refine st_storeN rfl z_size23 rfl rfl (agg_cells _) UU q_one_b32 (q_len_b32 (by first | assumption | exact Tree.hash_len _ | exact Tree.hhAt_len _ _)) (q_len_b32 (by first | assumption | exact Tree.hash_len _ | exact Tree.hhAt_len _ _)) (q_spl_b32_0_b32 (by first | assumption | exact Tree.hash_len _ | exact Tree.hhAt_len _ _) (by first | assumption | exact Tree.hash_len _ | exact Tree.hhAt_len _ _)) (by decide) rfl rfl H259 ?_
      clear H259; intro wx260 H260
      refine plain (y_assign rfl rfl) rfl rfl rfl H260 ?_
      clear H260; intro a261 H261
      refine fin ?_
      refine then_n ?_
      refine wp_seq ?_
      refine wp_seq ?_
      refine reg ?_
      refine plain (y_move rfl rfl) rfl rfl rfl H261 ?_
      clear H261; intro a262 H262
      refine plain (y_lss rfl rfl rfl) rfl rfl rfl H262 ?_
      clear H262; intro a263 H263
      refine plain (y_move rfl rfl) rfl rfl rfl H263 ?_
      clear H263; intro a264 H264
      refine Sx.part (d := 146) H264 rfl (fun hg265 => ?_) (fun hg265 => ?_)
      ·first
       |fail
       |skip
        clear H264; intro H266
        try simp only [decide_eq_true_eq, decide_eq_false_iff_not, Bool.not_eq_true', Bool.not_eq_false', Bool.and_eq_true, Bool.not_eq_true, Bool.not_eq_false] at hg265
        refine skip rfl rfl rfl H266 ?_
        clear H266; intro a267 H267
        refine skip rfl rfl rfl H267 ?_
        clear H267; intro a268 H268
        refine skip rfl rfl rfl H268 ?_
        clear H268; intro a269 H269
        refine skip rfl rfl rfl H269 ?_
        clear H269; intro a270 H270
        refine plain (y_pick_t rfl rfl rfl) rfl rfl rfl H270 ?_
        clear H270; intro a271 H271
        refine fin ?_
        refine then_n ?_
        refine cnd_t H271 rfl ?_
        refine wp_seq ?_
        have hno : n < 0 ∨ (X.length : Int) ≤ n := by omega
        have hbo := Tree.bkAt_out hno
        have hho := Tree.hhAt_out hno
        rw [hbo.1, hbo.2, hho] at H271
        refine reg ?_
        refine plain (y_move rfl rfl) rfl rfl rfl H271 ?_
        clear H271; intro a273 H273
        refine plain (y_eql rfl rfl rfl) rfl rfl rfl H273 ?_
        clear H273; intro a274 H274
        refine plain (y_move rfl rfl) rfl rfl rfl H274 ?_
        clear H274; intro a275 H275
        have H277 := H275.know (d := 154) (v := .bool true) rfl ((by first | rfl | exact congrArg Value.bool (decide_eq_true (by first | assumption | rfl | decide | omega))))
        clear H275
        refine plain (y_move rfl rfl) rfl rfl rfl H277 ?_
        clear H277; intro a278 H278
        refine plain (y_eql rfl rfl rfl) rfl rfl rfl H278 ?_
        clear H278; intro a279 H279
        refine plain (y_pick_t rfl rfl rfl) rfl rfl rfl H279 ?_
        clear H279; intro a280 H280
        refine plain (y_move rfl rfl) rfl rfl rfl H280 ?_
        clear H280; intro a281 H281
        have H283 := H281.know (d := 158) (v := .bool true) rfl ((by first | rfl | exact congrArg Value.bool (decide_eq_true (by first | assumption | rfl | decide | omega))))
        clear H281
        refine plain (y_loadAB rfl z_agg26 z_size26 rfl MM (q_ld_c2b32c1_0_35 (by first | assumption | exact Tree.hash_len _ | exact Tree.hhAt_len _ _)) (q_len_c2b32c1 (by first | assumption | exact Tree.hash_len _ | exact Tree.hhAt_len _ _))) rfl rfl rfl H283 ?_
        clear H283; intro a284 H284
        refine plain (y_build rfl z_zeroN26 z_places26 rfl lay_n) rfl rfl rfl H284 ?_
        clear H284; intro a285 H285
        refine st_callg rfl z_call28 rfl rfl rfl rfl H285 (rsame ⟨Tree.Block.zero, A', c'⟩ none 0 (Tree.w0_any _ _) (.inl rfl) (.inl rfl)) ?_
        clear H285; intro a286 wx286 H286
        refine plain (y_pick_t rfl rfl rfl) rfl rfl rfl H286 ?_
        clear H286; intro a287 H287
        refine plain (y_move rfl rfl) rfl rfl rfl H287 ?_
        clear H287; intro a288 H288
        have H290 := H288.know (d := 163) (v := .bool true) rfl ((by first | rfl | exact congrArg Value.bool (decide_eq_true (by first | assumption | rfl | decide | omega))))
        clear H288
        refine plain (y_loadAB rfl z_agg23 z_size23 rfl MM (q_ld_b32_0_32 (by first | assumption | exact Tree.hash_len _ | exact Tree.hhAt_len _ _)) (q_len_b32 (by first | assumption | exact Tree.hash_len _ | exact Tree.hhAt_len _ _))) rfl rfl rfl H290 ?_
        clear H290; intro a291 H291
        refine plain (y_buildA rfl z_zeroN23 Tryd.underlying23 z_size5 rfl lay_n) rfl rfl rfl H291 ?_
        clear H291; intro a292 H292
        refine plain (y_heql rfl Tryd.eqGuardType23 Tryd.underlying23 Tryd.underlying5 z_size5 rfl rfl (by first | assumption | exact Tree.hash_len _ | exact Tree.hhAt_len _ _) (by first | assumption | exact Tree.hash_len _ | exact Tree.hhAt_len _ _)) rfl rfl rfl H292 ?_
        clear H292; intro a293 H293
        refine plain (y_pick_t rfl rfl rfl) rfl rfl rfl H293 ?_
        clear H293; intro a294 H294
        refine plain (y_assign rfl rfl) rfl rfl rfl H294 ?_
        clear H294; intro a295 H295
        refine fin ?_
        refine then_n ?_
        refine wp_ret ?_
        refine then_r ?_
        -- return 1
        refine ret1 rfl H295 rfl ?_
        exact ⟨_, [], rfl, ⟨by first | rfl | exact congrArg Value.bool (decide_eq_true (by first | assumption | rfl | decide | omega)), rfl⟩, H295.sep.sub (List.nil_sublist _)⟩
      ·first
       |fail
       |skip
        clear H264; intro H296
        try simp only [decide_eq_true_eq, decide_eq_false_iff_not, Bool.not_eq_true', Bool.not_eq_false', Bool.and_eq_true, Bool.not_eq_true, Bool.not_eq_false] at hg265
        refine plain (y_move rfl rfl) rfl rfl rfl H296 ?_
        clear H296; intro a297 H297
        refine plain (y_move rfl rfl) rfl rfl rfl H297 ?_
        clear H297; intro a298 H298
        refine st_callg rfl z_call25 rfl rfl rfl rfl H298 (rcheight Y hYW (by omega) (by omega) dp de rx (.slice A5 Y.length c5) (H298.sep.all _ MM) (H298.sep.all _ MM)) ?_
        clear H298; intro a299 wx299 H299
        refine plain (y_gtr rfl rfl rfl) rfl rfl rfl H299 ?_
        clear H299; intro a300 H300
        refine plain (y_pick_f rfl rfl rfl) rfl rfl rfl H300 ?_
        clear H300; intro a301 H301
        refine fin ?_
        refine then_n ?_
        refine cnd H301 rfl (fun hc302 => ?_) (fun hc302 => ?_) -- cond 8
        ·skip
         try simp only [decide_eq_true_eq, decide_eq_false_iff_not, Bool.not_eq_true', Bool.not_eq_false', Bool.and_eq_true, Bool.not_eq_true, Bool.not_eq_false] at hc302
         refine wp_seq ?_
         have hno : n < 0 ∨ (X.length : Int) ≤ n := by omega
         have hbo := Tree.bkAt_out hno
         have hho := Tree.hhAt_out hno
         rw [hbo.1, hbo.2, hho] at H301
         refine reg ?_
         refine plain (y_move rfl rfl) rfl rfl rfl H301 ?_
         clear H301; intro a303 H303
         refine plain (y_eql rfl rfl rfl) rfl rfl rfl H303 ?_
         clear H303; intro a304 H304
         refine plain (y_move rfl rfl) rfl rfl rfl H304 ?_
         clear H304; intro a305 H305
         have H307 := H305.know (d := 154) (v := .bool true) rfl ((by first | rfl | exact congrArg Value.bool (decide_eq_true (by first | assumption | rfl | decide | omega))))
         clear H305
         refine plain (y_move rfl rfl) rfl rfl rfl H307 ?_
         clear H307; intro a308 H308
         refine plain (y_eql rfl rfl rfl) rfl rfl rfl H308 ?_
         clear H308; intro a309 H309
         refine plain (y_pick_t rfl rfl rfl) rfl rfl rfl H309 ?_
         clear H309; intro a310 H310
         refine plain (y_move rfl rfl) rfl rfl rfl H310 ?_
         clear H310; intro a311 H311
         have H313 := H311.know (d := 158) (v := .bool true) rfl ((by first | rfl | exact congrArg Value.bool (decide_eq_true (by first | assumption | rfl | decide | omega))))
         clear H311
         refine plain (y_loadAB rfl z_agg26 z_size26 rfl MM (q_ld_c2b32c1_0_35 (by first | assumption | exact Tree.hash_len _ | exact Tree.hhAt_len _ _)) (q_len_c2b32c1 (by first | assumption | exact Tree.hash_len _ | exact Tree.hhAt_len _ _))) rfl rfl rfl H313 ?_
         clear H313; intro a314 H314
         refine plain (y_build rfl z_zeroN26 z_places26 rfl lay_n) rfl rfl rfl H314 ?_
         clear H314; intro a315 H315
         refine st_callg rfl z_call28 rfl rfl rfl rfl H315 (rsame ⟨Tree.Block.zero, A', c'⟩ none 0 (Tree.w0_any _ _) (.inl rfl) (.inl rfl)) ?_
         clear H315; intro a316 wx316 H316
         refine plain (y_pick_t rfl rfl rfl) rfl rfl rfl H316 ?_
         clear H316; intro a317 H317
         refine plain (y_move rfl rfl) rfl rfl rfl H317 ?_
         clear H317; intro a318 H318
         have H320 := H318.know (d := 163) (v := .bool true) rfl ((by first | rfl | exact congrArg Value.bool (decide_eq_true (by first | assumption | rfl | decide | omega))))
         clear H318
         refine plain (y_loadAB rfl z_agg23 z_size23 rfl MM (q_ld_b32_0_32 (by first | assumption | exact Tree.hash_len _ | exact Tree.hhAt_len _ _)) (q_len_b32 (by first | assumption | exact Tree.hash_len _ | exact Tree.hhAt_len _ _))) rfl rfl rfl H320 ?_
         clear H320; intro a321 H321
         refine plain (y_buildA rfl z_zeroN23 Tryd.underlying23 z_size5 rfl lay_n) rfl rfl rfl H321 ?_
         clear H321; intro a322 H322
         refine plain (y_heql rfl Tryd.eqGuardType23 Tryd.underlying23 Tryd.underlying5 z_size5 rfl rfl (by first | assumption | exact Tree.hash_len _ | exact Tree.hhAt_len _ _) (by first | assumption | exact Tree.hash_len _ | exact Tree.hhAt_len _ _)) rfl rfl rfl H322 ?_
         clear H322; intro a323 H323
         refine plain (y_pick_t rfl rfl rfl) rfl rfl rfl H323 ?_
         clear H323; intro a324 H324
         refine plain (y_assign rfl rfl) rfl rfl rfl H324 ?_
         clear H324; intro a325 H325
         refine fin ?_
         refine then_n ?_
         refine wp_ret ?_
         refine then_r ?_
         -- return 2
         refine ret1 rfl H325 rfl ?_
         exact ⟨_, [], rfl, ⟨by first | rfl | exact congrArg Value.bool (decide_eq_true (by first | assumption | rfl | decide | omega)), rfl⟩, H325.sep.sub (List.nil_sublist _)⟩
        ·skip
         try simp only [decide_eq_true_eq, decide_eq_false_iff_not, Bool.not_eq_true', Bool.not_eq_false', Bool.and_eq_true, Bool.not_eq_true, Bool.not_eq_false] at hc302
         refine wp_skip ?_
         refine then_n ?_
         refine wp_seq ?_
         have hno : ¬ (n < 0 ∨ (X.length : Int) ≤ n) := by omega
         have hbo := Tree.bkAt_in hno
         have hho := Tree.hhAt_in hno
         rw [hbo.1, hbo.2, hho] at H301
         have hnl : n.toNat < Y.length := by omega
         have hnx : n.toNat < X.length := by omega
         have hwY := hYW.at_ hnl
         have hYX : (Y.getD n.toNat Inbox.BA.zero).b = (X.getD n.toNat Inbox.BA.zero).b := Tree.at_bl hXY hnx
         have hpY := hwY.parent
         have hpX := (hg.wf.at_ hnx).parent
         have hce : Inbox.BA.cells (Y.getD n.toNat Inbox.BA.zero) = Inbox.BA.cells ⟨(X.getD n.toNat Inbox.BA.zero).b, (Y.getD n.toNat Inbox.BA.zero).A, (Y.getD n.toNat Inbox.BA.zero).c⟩ := by rw [← hYX]
         obtain ⟨j, hj, hfj⟩ := Tree.find_blk hnx
         have hwB2 : Tree.W0 ⟨(X.getD n.toNat Inbox.BA.zero).b, A', c'⟩ := ⟨(hg.wf.at_ hnx).number, (hg.wf.at_ hnx).salt, hpX, (hg.wf.at_ hnx).items, (hg.wf.at_ hnx).bytes⟩
         refine reg ?_
         refine plain (y_move rfl rfl) rfl rfl rfl H301 ?_
         clear H301; intro a326 H326
         refine plain (y_nilCheck rfl rfl) rfl rfl rfl H326 ?_
         clear H326; intro a327 H327
         refine plain (y_fieldB rfl z_field56_0 rfl (by first | (simp only [Nat.zero_add, Nat.add_zero, Nat.reduceAdd]; rfl) | rfl)) rfl rfl rfl H327 ?_
         clear H327; intro a328 H328
         refine plain (y_loadB rfl z_agg36 rfl MM q_ix_c3_0) rfl rfl rfl H328 ?_
         clear H328; intro a329 H329
         refine plain (y_move rfl rfl) rfl rfl rfl H329 ?_
         clear H329; intro a330 H330
         refine plain (y_ixR rfl Tryd.underlying36 z_size26 rfl rfl (by omega) (by omega) (rd_row MM) (by first | (rw [Tree.acs_len]; omega) | (rw [Tree.bc_len hYW]; omega))) rfl rfl rfl H330 ?_
         clear H330; intro a331 H331
         refine plain (y_loadAS rfl z_agg26 z_size26 rfl (rd_row MM) (show _ = Inbox.BA.cells (Y.getD n.toNat Inbox.BA.zero) from Tree.bc_take hYW n.toNat (by omega)) hwY.len (by decide)) rfl rfl rfl H331 ?_
         clear H331; intro a332 H332
         refine st_callg rfl z_call10 rfl rfl rfl rfl H332 (rthash (Y.getD n.toNat Inbox.BA.zero) hwY (by have := hwY.bytes; omega) (Rd.frm (hQ _ (Inbox.memD _ hnl)).2 H332.sep.frm (by simp))) ?_
         clear H332; intro a333 wx333 H333
         refine plain (y_move rfl rfl) rfl rfl rfl H333 ?_
         clear H333; intro a334 H334
         refine plain (y_extract rfl rfl rfl) rfl rfl rfl H334 ?_
         clear H334; intro a335 H335
         refine plain (y_extract rfl rfl rfl) rfl rfl rfl H335 ?_
         clear H335; intro a336 H336
         refine st_alloc rfl z_zeroN23 rfl rfl rfl H336 ?_
         clear H336; intro b337 a337 wx337 H337
         refine st_storeN rfl z_size23 rfl rfl (agg_cells _) UU q_one_b32 (q_len_b32 (by first | assumption | exact Tree.hash_len _ | exact Tree.hhAt_len _ _)) (q_len_b32 (by first | assumption | exact Tree.hash_len _ | exact Tree.hhAt_len _ _)) (q_spl_b32_0_b32 (by first | assumption | exact Tree.hash_len _ | exact Tree.hhAt_len _ _) (by first | assumption | exact Tree.hash_len _ | exact Tree.hhAt_len _ _)) (by decide) rfl rfl H337 ?_
         clear H337; intro wx338 H338
         refine plain (y_assign rfl rfl) rfl rfl rfl H338 ?_
         clear H338; intro a339 H339
         refine fin ?_
         refine then_n ?_
         refine wp_seq ?_
         refine reg ?_
         refine plain (y_move rfl rfl) rfl rfl rfl H339 ?_
         clear H339; intro a340 H340
         refine plain (y_loadAB rfl z_agg23 z_size23 rfl MM (q_ld_b32_0_32 (by first | assumption | exact Tree.hash_len _ | exact Tree.hhAt_len _ _)) (q_len_b32 (by first | assumption | exact Tree.hash_len _ | exact Tree.hhAt_len _ _))) rfl rfl rfl H340 ?_
         clear H340; intro a341 H341
         refine st_callg rfl z_call29 rfl rfl rfl rfl H341 (tfind X hg.wf hg.pos hg.len dp de c v1 u1 (Tree.hash (Y.getD n.toNat Inbox.BA.zero).b).1 (Tree.hash_len _) (H341.sep.all _ MM) (H341.sep.all _ MM)) ?_
         clear H341; intro a342 wx342 H342
         refine plain (y_move rfl rfl) rfl rfl rfl H342 ?_
         clear H342; intro a343 H343
         simp only [hYX, hfj] at H343
         refine plain (y_extract rfl rfl rfl) rfl rfl rfl H343 ?_
         clear H343; intro a344 H344
         refine plain (y_extract rfl rfl rfl) rfl rfl rfl H344 ?_
         clear H344; intro a345 H345
         refine plain (y_assign rfl rfl) rfl rfl rfl H345 ?_
         clear H345; intro a346 H346
         refine plain (y_assign rfl rfl) rfl rfl rfl H346 ?_
         clear H346; intro a347 H347
         refine fin ?_
         refine then_n ?_
         refine wp_seq ?_
         refine hreg [It.blk b337 23 ((Tree.hash (X.getD n.toNat Inbox.BA.zero).b).1.map u8), It.blk b259 23 ((Tree.hash (X.getD n.toNat Inbox.BA.zero).b).1.map u8), It.blk b250 26 (Inbox.BA.cells (⟨(X.getD n.toNat Inbox.BA.zero).b, A', c'⟩ : Inbox.BA)), It.row 69 4 (.slice A' (X.getD n.toNat Inbox.BA.zero).b.items.length c') (X.getD n.toNat Inbox.BA.zero).b.items.length (Inbox.ic (X.getD n.toNat Inbox.BA.zero).b.items), It.row 26 35 (.slice A5 Y.length c5) Y.length (Inbox.bc Y), It.blk rx 56 [(.slice A5 Y.length c5), i64 dp, i64 de]] (fun _ h => h.subA) (by kernel_rfl) H347 ?_
         clear H347; intro wx348 H348
         refine htake 0 rfl (by kernel_rfl) (y_move rfl rfl) rfl rfl rfl (fun _ h => h.subA) H348 ?_
         clear H348; intro a349 H349
         refine htake 1 rfl (by kernel_rfl) (y_eql rfl rfl rfl) rfl rfl rfl (fun _ h => h.subA) H349 ?_
         clear H349; intro a350 H350
         refine htake 2 rfl (by kernel_rfl) (y_move rfl rfl) rfl rfl rfl (fun _ h => h.subA) H350 ?_
         clear H350; intro a351 H351
         have H353 := H351.know (d := 187) (v := .bool true) rfl ((by first | rfl | exact congrArg Value.bool (decide_eq_true (by first | assumption | rfl | decide | omega))))
         clear H351
         refine htake 3 rfl (by kernel_rfl) (y_move rfl rfl) rfl rfl rfl (fun _ h => h.subA) H353 ?_
         clear H353; intro a354 H354
         refine htake 4 rfl (by kernel_rfl) (y_eql rfl rfl rfl) rfl rfl rfl (fun _ h => h.subA) H354 ?_
         clear H354; intro a355 H355
         refine htake 5 rfl (by kernel_rfl) (y_pick_t rfl rfl rfl) rfl rfl rfl (fun _ h => h.subA) H355 ?_
         clear H355; intro a356 H356
         refine htake 6 rfl (by kernel_rfl) (y_move rfl rfl) rfl rfl rfl (fun _ h => h.subA) H356 ?_
         clear H356; intro a357 H357
         have H359 := H357.know (d := 191) (v := .bool true) rfl ((by first | rfl | exact congrArg Value.bool (decide_eq_true (by first | assumption | rfl | decide | omega))))
         clear H357
         refine htake 7 rfl (by kernel_rfl) (y_loadAB rfl z_agg26 z_size26 rfl MM (q_ld_c2b32c1_0_35 (by first | assumption | exact Tree.hash_len _ | exact Tree.hhAt_len _ _)) (q_len_c2b32c1 (by first | assumption | exact Tree.hash_len _ | exact Tree.hhAt_len _ _))) rfl rfl rfl (fun _ h => h.subA) H359 ?_
         clear H359; intro a360 H360
         refine htake 8 rfl (by kernel_rfl) (y_move rfl rfl) rfl rfl rfl (fun _ h => h.subA) H360 ?_
         clear H360; intro a361 H361
         refine htake 9 rfl (by kernel_rfl) (y_nilCheck rfl rfl) rfl rfl rfl (fun _ h => h.subA) H361 ?_
         clear H361; intro a362 H362
         refine htake 10 rfl (by kernel_rfl) (y_fieldB rfl z_field56_0 rfl (by first | (simp only [Nat.zero_add, Nat.add_zero, Nat.reduceAdd]; rfl) | rfl)) rfl rfl rfl (fun _ h => h.subA) H362 ?_
         clear H362; intro a363 H363
         refine htake 11 rfl (by kernel_rfl) (y_loadB rfl z_agg36 rfl MM q_ix_c3_0) rfl rfl rfl (fun _ h => h.subA) H363 ?_
         clear H363; intro a364 H364
         refine htake 12 rfl (by kernel_rfl) (y_move rfl rfl) rfl rfl rfl (fun _ h => h.subA) H364 ?_
         clear H364; intro a365 H365
         refine htake 13 rfl (by kernel_rfl) (y_ixR rfl Tryd.underlying36 z_size26 rfl rfl (by omega) (by omega) (rd_row MM) (by first | (rw [Tree.acs_len]; omega) | (rw [Tree.bc_len hYW]; omega))) rfl rfl rfl (fun _ h => h.subA) H365 ?_
         clear H365; intro a366 H366
         refine htake 14 rfl (by kernel_rfl) (y_loadAS rfl z_agg26 z_size26 rfl (rd_row MM) ((Tree.bc_take hYW n.toNat (by omega)).trans hce) (by rw [← hce]; exact hwY.len) (by decide)) rfl rfl rfl (fun _ h => h.subA) H366 ?_
         clear H366; intro a367 H367
         refine hgo 15 rfl (by kernel_rfl) ?_
         refine st_callg rfl z_call28 rfl rfl rfl rfl H367 (rsame ⟨(X.getD n.toNat Inbox.BA.zero).b, A', c'⟩ (Y.getD n.toNat Inbox.BA.zero).A (Y.getD n.toNat Inbox.BA.zero).c hwB2 (Rd.ofSep (rd_row MM) H367.sep) (by rw [← hYX]; exact Rd.frm (hQ _ (Inbox.memD _ hnl)).2 H367.sep.frm (by simp))) ?_
         clear H367; intro a368 wx368 H368
         refine hfinA H368.sep ?_
         refine htake 16 rfl (by kernel_rfl) (y_pick_t rfl rfl rfl) rfl rfl rfl (fun _ h => h.subA) H368 ?_
         clear H368; intro a369 H369
         refine htake 17 rfl (by kernel_rfl) (y_move rfl rfl) rfl rfl rfl (fun _ h => h.subA) H369 ?_
         clear H369; intro a370 H370
         have H372 := H370.know (d := 202) (v := .bool true) rfl ((by first | rfl | exact congrArg Value.bool (decide_eq_true (by first | assumption | rfl | decide | omega))))
         clear H370
         refine htake 18 rfl (by kernel_rfl) (y_loadAB rfl z_agg23 z_size23 rfl MM (q_ld_b32_0_32 (by first | assumption | exact Tree.hash_len _ | exact Tree.hhAt_len _ _)) (q_len_b32 (by first | assumption | exact Tree.hash_len _ | exact Tree.hhAt_len _ _))) rfl rfl rfl (fun _ h => h.subA) H372 ?_
         clear H372; intro a373 H373
         refine htake 19 rfl (by kernel_rfl) (y_loadAB rfl z_agg23 z_size23 rfl MM (q_ld_b32_0_32 (by first | assumption | exact Tree.hash_len _ | exact Tree.hhAt_len _ _)) (q_len_b32 (by first | assumption | exact Tree.hash_len _ | exact Tree.hhAt_len _ _))) rfl rfl rfl (fun _ h => h.subA) H373 ?_
         clear H373; intro a374 H374
         refine htake 20 rfl (by kernel_rfl) (y_heql rfl Tryd.eqGuardType23 Tryd.underlying23 Tryd.underlying5 z_size5 rfl rfl (by first | assumption | exact Tree.hash_len _ | exact Tree.hhAt_len _ _) (by first | assumption | exact Tree.hash_len _ | exact Tree.hhAt_len _ _)) rfl rfl rfl (fun _ h => h.subA) H374 ?_
         clear H374; intro a375 H375
         refine htake 21 rfl (by kernel_rfl) (y_pick_t rfl rfl rfl) rfl rfl rfl (fun _ h => h.subA) H375 ?_
         clear H375; intro a376 H376
         refine htake 22 rfl (by kernel_rfl) (y_move rfl rfl) rfl rfl rfl (fun _ h => h.subA) H376 ?_
         clear H376; intro a377 H377
         have H379 := H377.know (d := 207) (v := .bool true) rfl ((by first | rfl | exact congrArg Value.bool (decide_eq_true (by first | assumption | rfl | decide | omega))))
         clear H377
         refine htake 23 rfl (by kernel_rfl) (y_move rfl rfl) rfl rfl rfl (fun _ h => h.subA) H379 ?_
         clear H379; intro a380 H380
         refine htake 24 rfl (by kernel_rfl) (y_pick_t rfl rfl rfl) rfl rfl rfl (fun _ h => h.subA) H380 ?_
         clear H380; intro a381 H381
         refine htake 25 rfl (by kernel_rfl) (y_move rfl rfl) rfl rfl rfl (fun _ h => h.subA) H381 ?_
         clear H381; intro a382 H382
         have H384 := H382.know (d := 210) (v := .bool true) rfl ((by first | rfl | exact congrArg Value.bool (decide_eq_true (by first | assumption | rfl | decide | omega))))
         clear H382
         refine htake 26 rfl (by kernel_rfl) (y_move rfl rfl) rfl rfl rfl (fun _ h => h.subA) H384 ?_
         clear H384; intro a385 H385
         refine htake 27 rfl (by kernel_rfl) (y_move rfl rfl) rfl rfl rfl (fun _ h => h.subA) H385 ?_
         clear H385; intro a386 H386
         refine htake 28 rfl (by kernel_rfl) (y_leq rfl rfl rfl) rfl rfl rfl (fun _ h => h.subA) H386 ?_
         clear H386; intro a387 H387
         refine htake 29 rfl (by kernel_rfl) (y_pick_t rfl rfl rfl) rfl rfl rfl (fun _ h => h.subA) H387 ?_
         clear H387; intro a388 H388
         refine htake 30 rfl (by kernel_rfl) (y_assign rfl rfl) rfl rfl rfl (fun _ h => h.subA) H388 ?_
         clear H388; intro a389 H389
         refine hdone (by kernel_rfl) ?_
         refine then_n ?_
         refine wp_ret ?_
         -- return 3
         refine ret1 rfl H389 rfl ?_
         exact ⟨_, [], rfl, ⟨by first | rfl | exact congrArg Value.bool (decide_eq_true (by first | assumption | rfl | decide | omega)), rfl⟩, H389.sep.sub (List.nil_sublist _)⟩

end Go.Proofs.YtlhddgkbbdfacaaDoor.C_L6

set_option linter.unusedVariables false
set_option linter.unusedSimpArgs false
namespace Go.Proofs.YtlhddgkbbdfacaaDoor.C_L7
open Go.Sx Go.RowKit Go.Proofs.YtlhddgkbbdfacaaDoor.C_Block Go.Proofs.YtlhddgkbbdfacaaDoor.C_Sum Go.Proofs.YtlhddgkbbdfacaaDoor.C_Ref Go.Proofs.YtlhddgkbbdfacaaDoor.C_RSum Go.Proofs.YtlhddgkbbdfacaaDoor.C_Num Go.Proofs.YtlhddgkbbdfacaaDoor.C_Lay Go.Proofs.YtlhddgkbbdfacaaDoor.C_Leaf Go.Proofs.YtlhddgkbbdfacaaDoor.C_Item Go.Proofs.YtlhddgkbbdfacaaDoor.C_RefI Go.Proofs.YtlhddgkbbdfacaaDoor.C_Eq Go.Proofs.YtlhddgkbbdfacaaDoor.C_Hash Go.Proofs.YtlhddgkbbdfacaaDoor.C_Nx Go.Proofs.YtlhddgkbbdfacaaDoor.C_Sm Go.Proofs.YtlhddgkbbdfacaaDoor.C_New Go.Proofs.YtlhddgkbbdfacaaDoor.C_Mine Go.Proofs.YtlhddgkbbdfacaaDoor.C_Turn Go.Proofs.YtlhddgkbbdfacaaDoor.C_Has Go.Proofs.YtlhddgkbbdfacaaDoor.C_Blk Go.Proofs.YtlhddgkbbdfacaaDoor.C_Up Go.Proofs.YtlhddgkbbdfacaaDoor.C_Same Go.Proofs.YtlhddgkbbdfacaaDoor.C_Aw Go.Proofs.YtlhddgkbbdfacaaDoor.C_Fw Go.Proofs.YtlhddgkbbdfacaaDoor.C_Ea Go.Proofs.YtlhddgkbbdfacaaDoor.C_Fd Go.Proofs.YtlhddgkbbdfacaaDoor.C_Rc Go.Proofs.YtlhddgkbbdfacaaDoor.C_Rg Go.Proofs.YtlhddgkbbdfacaaDoor.C_Rm Go.Proofs.YtlhddgkbbdfacaaDoor.C_Rt Go.Proofs.YtlhddgkbbdfacaaDoor.C_Do Go.Proofs.YtlhddgkbbdfacaaDoor.C_B2 Go.Proofs.YtlhddgkbbdfacaaDoor.C_L6

theorem z_call12 : callB Tryd.prog 12 = true := by kernel_rfl
theorem z_call23 : callB Tryd.prog 23 = true := by kernel_rfl
theorem z_call11 : callB Tryd.prog 11 = true := by kernel_rfl

set_option maxRecDepth 100000 in
set_option maxHeartbeats 1000000 in
theorem treeDoes0 (dp n : Int) (h1 : ¬ (0 ≤ dp ∧ dp ≤ 4096)) (hn : Note.I64 n) (l : List Tree.Act) (A0 : Option Addr) (ca : Nat) (hl0 : l.length ≤ 9223372036854775807) {w : World} (wl : ∀ x ∈ l, Tree.Act.Wf w x) (hA : Rd w A0 (Tree.acs l)) (hG : Glob 0 Sha.K w) : Calls Tryd.prog 7 #[.int .i64 dp, .slice A0 l.length ca, .int .i64 n] w (Gives (.bool true) [] w) := by
 have lz32 : (List.replicate 32 (0 : UInt8)).length = 32 := List.length_replicate
 refine enterL (args := [.int .i64 dp, .slice A0 l.length ca, .int .i64 n]) Tryd.func7 rfl rfl (l := []) (Sep.refl _) ?_
 intro a0 H0
 refine wp_seq ?_
 refine reg ?_
 refine plain (y_assign rfl rfl) rfl rfl rfl H0 ?_
 clear H0; intro a1 H1
 refine fin ?_
 refine then_n ?_
 refine wp_seq ?_
 refine reg ?_
 refine plain (y_move rfl rfl) rfl rfl rfl H1 ?_
 clear H1; intro a2 H2
 refine st_callg rfl z_call12 rfl rfl rfl rfl H2 (tnewBad dp h1 _) ?_
 clear H2; intro a3 wx3 H3
 refine plain (y_move rfl rfl) rfl rfl rfl H3 ?_
 clear H3; intro a4 H4
 refine plain (y_extract rfl rfl rfl) rfl rfl rfl H4 ?_
 clear H4; intro a5 H5
 refine plain (y_extract rfl rfl rfl) rfl rfl rfl H5 ?_
 clear H5; intro a6 H6
 refine plain (y_assign rfl rfl) rfl rfl rfl H6 ?_
 clear H6; intro a7 H7
 refine plain (y_assign rfl rfl) rfl rfl rfl H7 ?_
 clear H7; intro a8 H8
 refine fin ?_
 refine then_n ?_
 refine wp_seq ?_
 refine reg ?_
 refine plain (y_move rfl rfl) rfl rfl rfl H8 ?_
 clear H8; intro a9 H9
 refine st_callg rfl z_call23 rfl rfl rfl rfl H9 (rcnewBad dp h1 _) ?_
 clear H9; intro a10 wx10 H10
 refine plain (y_move rfl rfl) rfl rfl rfl H10 ?_
 clear H10; intro a11 H11
 refine plain (y_extract rfl rfl rfl) rfl rfl rfl H11 ?_
 clear H11; intro a12 H12
 refine plain (y_extract rfl rfl rfl) rfl rfl rfl H12 ?_
 clear H12; intro a13 H13
 refine plain (y_assign rfl rfl) rfl rfl rfl H13 ?_
 clear H13; intro a14 H14
 refine plain (y_assign rfl rfl) rfl rfl rfl H14 ?_
 clear H14; intro a15 H15
 refine fin ?_
 refine then_n ?_
 refine wp_seq ?_
 refine wp_seq ?_
 refine reg ?_
 refine plain (y_move rfl rfl) rfl rfl rfl H15 ?_
 clear H15; intro a16 H16
 refine plain (y_move rfl rfl) rfl rfl rfl H16 ?_
 clear H16; intro a17 H17
 refine plain (y_neq rfl rfl rfl) rfl rfl rfl H17 ?_
 clear H17; intro a18 H18
 refine plain (y_move rfl rfl) rfl rfl rfl H18 ?_
 clear H18; intro a19 H19
 have H21 := H19.know (d := 33) (v := .bool false) rfl ((by first | rfl | exact congrArg Value.bool (decide_eq_false (fun z => z rfl)) | exact congrArg Value.bool (decide_eq_false (by first | decide | omega))))
 clear H19
 refine plain (y_move rfl rfl) rfl rfl rfl H21 ?_
 clear H21; intro a22 H22
 refine plain (y_peql rfl Tryd.underlying33 rfl rfl) rfl rfl rfl H22 ?_
 clear H22; intro a23 H23
 refine plain (y_move rfl rfl) rfl rfl rfl H23 ?_
 clear H23; intro a24 H24
 refine plain (y_peql rfl Tryd.underlying51 rfl rfl) rfl rfl rfl H24 ?_
 clear H24; intro a25 H25
 refine plain (y_bneq rfl Tryd.underlying4 rfl rfl) rfl rfl rfl H25 ?_
 clear H25; intro a26 H26
 refine plain (y_pick_f rfl rfl rfl) rfl rfl rfl H26 ?_
 clear H26; intro a27 H27
 refine plain (y_move rfl rfl) rfl rfl rfl H27 ?_
 clear H27; intro a28 H28
 have H30 := H28.know (d := 40) (v := .bool false) rfl ((by first | rfl | exact congrArg Value.bool (decide_eq_false (fun z => z rfl)) | exact congrArg Value.bool (decide_eq_false (by first | decide | omega))))
 clear H28
 refine st_callg rfl z_call11 rfl rfl rfl rfl H30 (awake (hG.frm H30.sep.frm (by simp))) ?_
 clear H30; intro a31 wx31 H31
 refine plain (y_not rfl rfl) rfl rfl rfl H31 ?_
 clear H31; intro a32 H32
 refine plain (y_pick_f rfl rfl rfl) rfl rfl rfl H32 ?_
 clear H32; intro a33 H33
 refine fin ?_
 refine then_n ?_
 refine cnd_f H33 rfl ?_
 refine wp_skip ?_
 refine then_n ?_
 refine wp_seq ?_
 refine wp_seq ?_
 refine reg ?_
 refine plain (y_move rfl rfl) rfl rfl rfl H33 ?_
 clear H33; intro a35 H35
 refine plain (y_peql rfl Tryd.underlying51 rfl rfl) rfl rfl rfl H35 ?_
 clear H35; intro a36 H36
 refine fin ?_
 refine then_n ?_
 refine cnd_t H36 rfl ?_
 refine wp_seq ?_
 refine reg ?_
 refine plain (y_assign rfl rfl) rfl rfl rfl H36 ?_
 clear H36; intro a38 H38
 refine fin ?_
 refine then_n ?_
 refine wp_ret ?_
 refine then_r ?_
 -- return 1
 refine ret1 rfl H38 rfl ?_
 exact ⟨_, [], rfl, ⟨by first | rfl | exact congrArg Value.bool (decide_eq_true (by first | assumption | rfl | decide | omega)), rfl⟩, H38.sep.sub (List.nil_sublist _)⟩
theorem treeDoes (dp n : Int) (hn : Note.I64 n) (l : List Tree.Act) (A0 : Option Addr) (ca : Nat) (hl0 : l.length ≤ 9223372036854775807) {w : World} (wl : ∀ x ∈ l, Tree.Act.Wf w x) (hA : Rd w A0 (Tree.acs l)) (hG : Glob 0 Sha.K w) : Calls Tryd.prog 7 #[.int .i64 dp, .slice A0 l.length ca, .int .i64 n] w (Gives (.bool true) [] w) := by
 by_cases h1 : 0 ≤ dp ∧ dp ≤ 4096
 ·exact treeDoes1 dp n h1 hn l A0 ca hl0 wl hA hG
 ·exact treeDoes0 dp n h1 hn l A0 ca hl0 wl hA hG

end Go.Proofs.YtlhddgkbbdfacaaDoor.C_L7

set_option linter.unusedVariables false
set_option linter.unusedSimpArgs false
namespace Go.Proofs.YtlhddgkbbdfacaaDoor.C_Rd
open Go.Sx Go.RowKit

theorem rd_Item {H : Type} {enc : TypeId × Value → H} {W : World} {sp : Nat → Bool} {held : Bool} {cs : List Value} (h : Trw enc Tryd.prog W sp held 69 cs) : ∃ (x : Note.Item), cs = Note.Item.cells x ∧ Note.Item.Wf x := by
  have hp := h.pieces Tryd.underlying69 [1, 1, 1, 1] (by kernel_rfl)
  obtain ⟨v0, e0, w0⟩ := (h.field Tryd.underlying69 0 rfl (o := 0) rfl (T := 3) rfl (k := 1) (by kernel_rfl)).i64 Tryd.underlying3
  obtain ⟨v1, e1, w1⟩ := (h.field Tryd.underlying69 1 rfl (o := 1) rfl (T := 3) rfl (k := 1) (by kernel_rfl)).i64 Tryd.underlying3
  obtain ⟨v2, e2, w2⟩ := (h.field Tryd.underlying69 2 rfl (o := 2) rfl (T := 3) rfl (k := 1) (by kernel_rfl)).i64 Tryd.underlying3
  obtain ⟨v3, e3, w3⟩ := (h.field Tryd.underlying69 3 rfl (o := 3) rfl (T := 9) rfl (k := 1) (by kernel_rfl)).str Tryd.underlying9
  refine ⟨⟨v0, v1, v2, v3⟩, ?_, w0, w1, w2, w3⟩
  rw [hp]
  simp only [Sx.pieces, Nat.zero_add, Nat.reduceAdd, e0, e1, e2, e3]
  first | rfl | simp [Note.Item.cells]
theorem rd_IA {H : Type} {enc : TypeId × Value → H} {W : World} {sp : Nat → Bool} {held : Bool} {cs : List Value} (h : Trw enc Tryd.prog W sp held 24 cs) : ∃ (q : Tree.IA), cs = [.slice q.A q.l.length q.c] ∧ (Tree.IA.Wf q ∧ Rd W q.A (Inbox.ic q.l)) := by
  obtain ⟨A0, m0, c0, e0, hmc0, hm0, rows0, hr0, hR0, hrow0⟩ := h.sliceC Tryd.underlying24 (by rw [show Tryd.prog.cellsOf 69 = 4 by kernel_rfl]; decide)
  obtain ⟨v0, rfl, w0⟩ := rows_map (f := Note.Item.cells) (rows := rows0) (fun r hr => rd_Item (hrow0 r hr).2)
  simp only [List.length_map] at hr0
  subst hr0
  have hby0 := h.sliceB Tryd.underlying24 e0
  rw [show Tryd.prog.bytesOf 69 = 40 by kernel_rfl] at hby0
  unfold reachBytes at hby0
  exact ⟨⟨v0, A0, c0⟩, e0, ⟨w0, by show v0.length * 40 ≤ _; omega⟩, hR0⟩
theorem rd_Act {H : Type} {enc : TypeId × Value → H} {W : World} {sp : Nat → Bool} {held : Bool} {cs : List Value} (h : Trw enc Tryd.prog W sp held 39 cs) : ∃ (x : Tree.Act), cs = Tree.Act.cells x ∧ Tree.Act.Wf W x := by
  have hp := h.pieces Tryd.underlying39 [1, 1, 1, 1] (by kernel_rfl)
  obtain ⟨v0, e0, w0⟩ := (h.field Tryd.underlying39 0 rfl (o := 0) rfl (T := 3) rfl (k := 1) (by kernel_rfl)).i64 Tryd.underlying3
  obtain ⟨v1, e1, w1⟩ := (h.field Tryd.underlying39 1 rfl (o := 1) rfl (T := 3) rfl (k := 1) (by kernel_rfl)).i64 Tryd.underlying3
  obtain ⟨v2, e2, w2⟩ := (h.field Tryd.underlying39 2 rfl (o := 2) rfl (T := 3) rfl (k := 1) (by kernel_rfl)).i64 Tryd.underlying3
  obtain ⟨A3, m3, c3, e3, hmc3, hm3, rows3, hr3, hR3, hrow3⟩ := (h.field Tryd.underlying39 3 rfl (o := 3) rfl (T := 37) rfl (k := 1) (by kernel_rfl)).sliceC Tryd.underlying37 (by rw [show Tryd.prog.cellsOf 24 = 1 by kernel_rfl]; decide)
  obtain ⟨v3, rfl, w3⟩ := rows_map (f := (fun q : Tree.IA => [Value.slice q.A q.l.length q.c])) (rows := rows3) (fun r hr => rd_IA (hrow3 r hr).2)
  simp only [List.length_map] at hr3
  subst hr3
  have hby3 := (h.field Tryd.underlying39 3 rfl (o := 3) rfl (T := 37) rfl (k := 1) (by kernel_rfl)).sliceB Tryd.underlying37 e3
  rw [show Tryd.prog.bytesOf 24 = 24 by kernel_rfl] at hby3
  unfold reachBytes at hby3
  rw [Tree.iac_flat] at hR3
  refine ⟨⟨v0, v1, v2, v3, A3, c3⟩, ?_, ⟨w0, w1, w2, fun q hq => (w3 q hq).1, hR3, fun q hq => (w3 q hq).2, hm3, hmc3⟩⟩
  rw [hp]
  simp only [Sx.pieces, Nat.zero_add, Nat.reduceAdd, e0, e1, e2, e3]
  first | rfl | simp [Tree.Act.cells]

end Go.Proofs.YtlhddgkbbdfacaaDoor.C_Rd
