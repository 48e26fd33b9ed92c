/- Part of a proof about given Go functions: contracts of functions, or plain laws. -/
import Derived.Test.YtaeahloenahelaaDoorLaneV
import Derived.Test.YtaeahloenahelaaDoorSxI
import Derived.Test.YtaeahloenahelaaDoorSxN
import Derived.Test.YtaeahloenahelaaDoorSxK
import Derived.Test.YtaeahloenahelaaDoorSxM
import Derived.Test.YtaeahloenahelaaDoorProg
import Derived.Test.YtaeahloenahelaaDoorW1
import Derived.Test.YtaeahloenahelaaDoorW2
import Derived.Test.YtaeahloenahelaaDoorSxW
import Derived.Test.YtaeahloenahelaaDoorSha
import Derived.Test.YtaeahloenahelaaDoorShaAbc
import Derived.Test.YtaeahloenahelaaDoorSxX
import Derived.Test.YtaeahloenahelaaDoorSxY
import Derived.Test.YtaeahloenahelaaDoorSeal
import Derived.Test.YtaeahloenahelaaDoorShaKey
import Derived.Test.YtaeahloenahelaaDoorOct2
set_option linter.unusedVariables false
set_option linter.unusedSimpArgs false
namespace Go.Proofs.YtaeahloenahelaaDoor.A_Ln3
open Go.Sx Go.RowKit Go.Proofs.YtaeahloenahelaaDoor.A_Block Go.Proofs.YtaeahloenahelaaDoor.A_Sum Go.Proofs.YtaeahloenahelaaDoor.A_Ref Go.Proofs.YtaeahloenahelaaDoor.A_RSum Go.Proofs.YtaeahloenahelaaDoor.A_Ln1 Go.Proofs.YtaeahloenahelaaDoor.A_Tx Go.Proofs.YtaeahloenahelaaDoor.A_Body Go.Proofs.YtaeahloenahelaaDoor.A_Chk Go.Proofs.YtaeahloenahelaaDoor.A_Leaf Go.Proofs.YtaeahloenahelaaDoor.A_Key

theorem z_zeroN101 : zeroL Tryd.prog 101 = some ((.int .i64 0 :: (.map none :: (.map none :: [])))) := by kernel_rfl
theorem z_places101 : placesB Tryd.prog 101 = some [(0, 1), (1, 1), (2, 1)] := by kernel_rfl
theorem q_len_c3 {a0 a1 a2 : Value} : (a0 :: a1 :: a2 :: []).length = 3 := (len_c (n := 2) (len_c (n := 1) (len_c (n := 0) len_n)))
theorem q_spl_c3_0_c1 {a0 a1 a2 : Value} {b0 : Value} : spl (a0 :: a1 :: a2 :: []) 0 (b0 :: []) = b0 :: a1 :: a2 :: [] := spl_0
theorem q_spl_c3_1_c1 {a0 a1 a2 : Value} {b0 : Value} : spl (a0 :: a1 :: a2 :: []) 1 (b0 :: []) = a0 :: b0 :: a2 :: [] := (spl_c (o := 0) spl_0)
theorem q_spl_c3_2_c1 {a0 a1 a2 : Value} {b0 : Value} : spl (a0 :: a1 :: a2 :: []) 2 (b0 :: []) = a0 :: a1 :: b0 :: [] := (spl_c (o := 1) (spl_c (o := 0) spl_0))
theorem z_agg50 : aggB Tryd.prog 50 = some true := by kernel_rfl
theorem z_size50 : sizeB Tryd.prog 50 = some 72 := by kernel_rfl
theorem q_ld_c8b32b32_0_72 {a0 a1 a2 a3 a4 a5 a6 a7 : Value} {t8 t9 : List UInt8} (h8 : t8.length = 32) (h9 : t9.length = 32) : ((a0 :: a1 :: a2 :: a3 :: a4 :: a5 :: a6 :: a7 :: (t8.map u8 ++ (t9.map u8))).drop 0).take 72 = a0 :: a1 :: a2 :: a3 :: a4 :: a5 :: a6 :: a7 :: (t8.map u8 ++ (t9.map u8)) := (ld_a (len_c (n := 71) (len_c (n := 70) (len_c (n := 69) (len_c (n := 68) (len_c (n := 67) (len_c (n := 66) (len_c (n := 65) (len_c (n := 64) (len_b (k := 32) (n := 32) h8 (len_e (k := 32) h9)))))))))))
theorem q_len_c8b32b32 {a0 a1 a2 a3 a4 a5 a6 a7 : Value} {t8 t9 : List UInt8} (h8 : t8.length = 32) (h9 : t9.length = 32) : (a0 :: a1 :: a2 :: a3 :: a4 :: a5 :: a6 :: a7 :: (t8.map u8 ++ (t9.map u8))).length = 72 := (len_c (n := 71) (len_c (n := 70) (len_c (n := 69) (len_c (n := 68) (len_c (n := 67) (len_c (n := 66) (len_c (n := 65) (len_c (n := 64) (len_b (k := 32) (n := 32) h8 (len_e (k := 32) h9))))))))))
theorem z_call59 : callB Tryd.prog 59 = true := by kernel_rfl
theorem z_field50_8 : fieldB Tryd.prog 50 8 = some 8 := by kernel_rfl
theorem z_agg28 : aggB Tryd.prog 28 = some true := by kernel_rfl
theorem z_size28 : sizeB Tryd.prog 28 = some 32 := by kernel_rfl
theorem q_ld_c8b32b32_8_32 {a0 a1 a2 a3 a4 a5 a6 a7 : Value} {t8 t9 : List UInt8} (h8 : t8.length = 32) : ((a0 :: a1 :: a2 :: a3 :: a4 :: a5 :: a6 :: a7 :: (t8.map u8 ++ (t9.map u8))).drop 8).take 32 = t8.map u8 := (ld_c (o := 7) (ld_c (o := 6) (ld_c (o := 5) (ld_c (o := 4) (ld_c (o := 3) (ld_c (o := 2) (ld_c (o := 1) (ld_c (o := 0) (ld_h h8)))))))))
theorem q_len_b32 {t0 : List UInt8} (h0 : t0.length = 32) : (t0.map u8).length = 32 := (len_e (k := 32) h0)
theorem z_call60 : callB Tryd.prog 60 = true := by kernel_rfl
theorem z_call57 : callB Tryd.prog 57 = true := by kernel_rfl
theorem z_field50_6 : fieldB Tryd.prog 50 6 = some 6 := by kernel_rfl
theorem z_agg3 : aggB Tryd.prog 3 = some false := by kernel_rfl
theorem q_ix_c8b32b32_6 {a0 a1 a2 a3 a4 a5 a6 a7 : Value} {t8 t9 : List UInt8} : (a0 :: a1 :: a2 :: a3 :: a4 :: a5 :: a6 :: a7 :: (t8.map u8 ++ (t9.map u8)))[6]? = some a6 := (ix_c (o := 5) (ix_c (o := 4) (ix_c (o := 3) (ix_c (o := 2) (ix_c (o := 1) (ix_c (o := 0) ix_0))))))
theorem z_call23 : callB Tryd.prog 23 = true := by kernel_rfl
theorem z_field50_5 : fieldB Tryd.prog 50 5 = some 5 := by kernel_rfl
theorem z_agg4 : aggB Tryd.prog 4 = some false := by kernel_rfl
theorem q_ix_c8b32b32_5 {a0 a1 a2 a3 a4 a5 a6 a7 : Value} {t8 t9 : List UInt8} : (a0 :: a1 :: a2 :: a3 :: a4 :: a5 :: a6 :: a7 :: (t8.map u8 ++ (t9.map u8)))[5]? = some a5 := (ix_c (o := 4) (ix_c (o := 3) (ix_c (o := 2) (ix_c (o := 1) (ix_c (o := 0) ix_0)))))
theorem z_call19 : callB Tryd.prog 19 = true := by kernel_rfl
theorem z_call58 : callB Tryd.prog 58 = true := by kernel_rfl
theorem z_field50_7 : fieldB Tryd.prog 50 7 = some 7 := by kernel_rfl
theorem q_ix_c8b32b32_7 {a0 a1 a2 a3 a4 a5 a6 a7 : Value} {t8 t9 : List UInt8} : (a0 :: a1 :: a2 :: a3 :: a4 :: a5 :: a6 :: a7 :: (t8.map u8 ++ (t9.map u8)))[7]? = some a7 := (ix_c (o := 6) (ix_c (o := 5) (ix_c (o := 4) (ix_c (o := 3) (ix_c (o := 2) (ix_c (o := 1) (ix_c (o := 0) ix_0)))))))
theorem z_call25 : callB Tryd.prog 25 = true := by kernel_rfl
theorem z_call27 : callB Tryd.prog 27 = true := by kernel_rfl
theorem z_field101_2 : fieldB Tryd.prog 101 2 = some 2 := by kernel_rfl
theorem z_agg99 : aggB Tryd.prog 99 = some false := by kernel_rfl
theorem q_ix_c3_2 {a0 a1 a2 : Value} : (a0 :: a1 :: a2 :: [])[2]? = some a2 := (ix_c (o := 1) (ix_c (o := 0) ix_0))
theorem z_zval3 : (Tryd.prog.info? 3).bind (·.zero) = some (.int .i64 0) := by kernel_rfl

set_option maxRecDepth 100000 in
set_option maxHeartbeats 1000000 in
theorem lnew (len : Int) (h1 : 1 ≤ len ∧ len ≤ 1099511627776) (w : World) : Calls Tryd.prog 17 #[.int .i64 len] w (Post [] w fun v l' => ∃ b h u, v = .tuple #[.pointer (some ⟨b, 0, none⟩), .int .i64 0] ∧ l' = [It.blk b 101 (Lane.lc len h u), It.mp h (Lane.hm []), It.mp u (fun _ => none)]) := by
  have lz32 : (List.replicate 32 (0 : UInt8)).length = 32 := List.length_replicate
  refine enterL (args := [.int .i64 len]) Tryd.func17 rfl rfl (l := []) (Sep.refl _) ?_
  intro a0 H0
  refine wp_seq ?_
  refine reg ?_
  refine plain (y_assign rfl rfl) rfl rfl rfl H0 ?_
  clear H0; intro a1 H1
  refine plain (y_assign rfl rfl) rfl rfl rfl H1 ?_
  clear H1; intro a2 H2
  refine fin ?_
  refine then_n ?_
  refine wp_seq ?_
  refine wp_seq ?_
  refine reg ?_
  refine plain (y_move rfl rfl) rfl rfl rfl H2 ?_
  clear H2; intro a3 H3
  refine plain (y_lss rfl rfl rfl) rfl rfl rfl H3 ?_
  clear H3; intro a4 H4
  refine plain (y_move rfl rfl) rfl rfl rfl H4 ?_
  clear H4; intro a5 H5
  have H7 := H5.know (d := 6) (v := .bool false) rfl (congrArg Value.bool (decide_eq_false (by omega)))
  clear H5
  refine plain (y_move rfl rfl) rfl rfl rfl H7 ?_
  clear H7; intro a8 H8
  refine plain (y_gtr rfl rfl rfl) rfl rfl rfl H8 ?_
  clear H8; intro a9 H9
  refine plain (y_pick_f rfl rfl rfl) rfl rfl rfl H9 ?_
  clear H9; intro a10 H10
  refine fin ?_
  refine then_n ?_
  refine cnd H10 rfl (fun hc11 => ?_) (fun hc11 => ?_) -- cond 1
  · (try simp only [decide_eq_true_eq, decide_eq_false_iff_not, Bool.not_eq_true', Bool.not_eq_false', Bool.and_eq_true, Bool.not_eq_true, Bool.not_eq_false] at hc11); (exfalso; omega)
  · skip
    try simp only [decide_eq_true_eq, decide_eq_false_iff_not, Bool.not_eq_true', Bool.not_eq_false', Bool.and_eq_true, Bool.not_eq_true, Bool.not_eq_false] at hc11
    refine wp_skip ?_
    refine then_n ?_
    refine wp_seq ?_
    refine reg ?_
    refine plain (y_move rfl rfl) rfl rfl rfl H10 ?_
    clear H10; intro a12 H12
    refine st_makeMap rfl rfl rfl rfl H12 ?_
    clear H12; intro b13 a13 wx13 H13
    refine st_makeMap rfl rfl rfl rfl H13 ?_
    clear H13; intro b14 a14 wx14 H14
    refine plain (y_build rfl z_zeroN101 z_places101 rfl (lay_1 (off := 0) (n := 3) rfl q_len_c3 (by decide) q_spl_c3_0_c1 (lay_1 (off := 1) (n := 3) rfl q_len_c3 (by decide) q_spl_c3_1_c1 (lay_1 (off := 2) (n := 3) rfl q_len_c3 (by decide) q_spl_c3_2_c1 lay_n (by rfl)) (by rfl)) (by rfl))) rfl rfl rfl H14 ?_
    clear H14; intro a15 H15
    refine st_box rfl rfl (agg_cells _) rfl rfl rfl H15 ?_
    clear H15; intro b16 a16 wx16 H16
    refine plain (y_assign rfl rfl) rfl rfl rfl H16 ?_
    clear H16; intro a17 H17
    refine plain (y_assign rfl rfl) rfl rfl rfl H17 ?_
    clear H17; intro a18 H18
    refine fin ?_
    refine then_n ?_
    refine wp_ret ?_
    -- return 1
    refine ret2 rfl H18 rfl rfl ?_
    first | (exfalso; omega) | (refine ⟨_, _, rfl, ⟨b16, b13, b14, rfl, rfl⟩, ?_⟩; rw [Lane.hm_nil]; exact H18.sep.perm (List.Perm.cons _ (List.Perm.swap _ _ _)))
set_option maxRecDepth 100000 in
set_option maxHeartbeats 1000000 in
theorem lnewBad (len : Int) (h1 : ¬ (1 ≤ len ∧ len ≤ 1099511627776)) (w : World) : Calls Tryd.prog 17 #[.int .i64 len] w (Gives (.tuple #[.pointer none, .int .i64 2]) [] w) := by
  have lz32 : (List.replicate 32 (0 : UInt8)).length = 32 := List.length_replicate
  refine enterL (args := [.int .i64 len]) Tryd.func17 rfl rfl (l := []) (Sep.refl _) ?_
  intro a0 H0
  refine wp_seq ?_
  refine reg ?_
  refine plain (y_assign rfl rfl) rfl rfl rfl H0 ?_
  clear H0; intro a1 H1
  refine plain (y_assign rfl rfl) rfl rfl rfl H1 ?_
  clear H1; intro a2 H2
  refine fin ?_
  refine then_n ?_
  refine wp_seq ?_
  refine wp_seq ?_
  refine reg ?_
  refine plain (y_move rfl rfl) rfl rfl rfl H2 ?_
  clear H2; intro a3 H3
  refine plain (y_lss rfl rfl rfl) rfl rfl rfl H3 ?_
  clear H3; intro a4 H4
  refine plain (y_move rfl rfl) rfl rfl rfl H4 ?_
  clear H4; intro a5 H5
  refine Sx.part (d := 6) H5 rfl (fun hg6 => ?_) (fun hg6 => ?_)
  · first
    | fail
    | skip
      clear H5; intro H7
      try simp only [decide_eq_true_eq, decide_eq_false_iff_not, Bool.not_eq_true', Bool.not_eq_false', Bool.and_eq_true, Bool.not_eq_true, Bool.not_eq_false] at hg6
      refine skip rfl rfl rfl H7 ?_
      clear H7; intro a8 H8
      refine skip rfl rfl rfl H8 ?_
      clear H8; intro a9 H9
      refine plain (y_pick_t rfl rfl rfl) rfl rfl rfl H9 ?_
      clear H9; intro a10 H10
      refine fin ?_
      refine then_n ?_
      refine cnd_t H10 rfl ?_
      refine wp_seq ?_
      refine reg ?_
      refine plain (y_assign rfl rfl) rfl rfl rfl H10 ?_
      clear H10; intro a12 H12
      refine plain (y_assign rfl rfl) rfl rfl rfl H12 ?_
      clear H12; intro a13 H13
      refine fin ?_
      refine then_n ?_
      refine wp_ret ?_
      refine then_r ?_
      -- return 1
      refine ret2 rfl H13 rfl rfl ?_
      exact ⟨_, [], rfl, ⟨rfl, rfl⟩, H13.sep.sub (List.nil_sublist _)⟩
  · first
    | fail
    | skip
      clear H5; intro H14
      try simp only [decide_eq_true_eq, decide_eq_false_iff_not, Bool.not_eq_true', Bool.not_eq_false', Bool.and_eq_true, Bool.not_eq_true, Bool.not_eq_false] at hg6
      refine plain (y_move rfl rfl) rfl rfl rfl H14 ?_
      clear H14; intro a15 H15
      refine plain (y_gtr rfl rfl rfl) rfl rfl rfl H15 ?_
      clear H15; intro a16 H16
      refine plain (y_pick_f rfl rfl rfl) rfl rfl rfl H16 ?_
      clear H16; intro a17 H17
      refine fin ?_
      refine then_n ?_
      refine cnd H17 rfl (fun hc18 => ?_) (fun hc18 => ?_) -- cond 2
      · skip
        try simp only [decide_eq_true_eq, decide_eq_false_iff_not, Bool.not_eq_true', Bool.not_eq_false', Bool.and_eq_true, Bool.not_eq_true, Bool.not_eq_false] at hc18
        refine wp_seq ?_
        refine reg ?_
        refine plain (y_assign rfl rfl) rfl rfl rfl H17 ?_
        clear H17; intro a19 H19
        refine plain (y_assign rfl rfl) rfl rfl rfl H19 ?_
        clear H19; intro a20 H20
        refine fin ?_
        refine then_n ?_
        refine wp_ret ?_
        refine then_r ?_
        -- return 2
        refine ret2 rfl H20 rfl rfl ?_
        exact ⟨_, [], rfl, ⟨rfl, rfl⟩, H20.sep.sub (List.nil_sublist _)⟩
      · (try simp only [decide_eq_true_eq, decide_eq_false_iff_not, Bool.not_eq_true', Bool.not_eq_false', Bool.and_eq_true, Bool.not_eq_true, Bool.not_eq_false] at hc18); (exfalso; omega)
set_option maxRecDepth 100000 in
set_option maxHeartbeats 1000000 in
theorem ltheirs0 (bT : Nat) (t : Txs.Tx) (wf : Txs.Tx.Wf t) (who : Int) (hw : Note.I64 who) {w : World} (hp : (It.blk bT 50 (Txs.Tx.cells t)).P w) (hG : Glob 0 Sha.K w) (hz : 0 ∉ [bT]) : Calls Tryd.prog 58 #[.int .i64 who, .pointer (some ⟨bT, 0, none⟩)] w (Post [bT] w (fun v l => ∃ l', l = l' ++ [It.blk bT 50 (Txs.Tx.cells t)] ∧ v = .bool (decide (Seal.check who 2 (Txs.body t).1 t.hand = 0)) ∧ l' = [])) := by
  have whd := wf.hand
  have wtg := wf.tag
  have hbl := Txs.body_len t
  have lz32 : (List.replicate 32 (0 : UInt8)).length = 32 := List.length_replicate
  have lz0 := wf.hand
  have lz1 := wf.tag
  refine enterL (args := [.int .i64 who, .pointer (some ⟨bT, 0, none⟩)]) Tryd.func58 rfl rfl (l := [It.blk bT 50 (Txs.Tx.cells t)]) (Sep.one hp) ?_
  intro a0 H0
  refine wp_seq ?_
  refine reg ?_
  refine plain (y_assign rfl rfl) rfl rfl rfl H0 ?_
  clear H0; intro a1 H1
  refine fin ?_
  refine then_n ?_
  refine wp_seq ?_
  refine reg ?_
  refine plain (y_loadAB rfl z_agg50 z_size50 rfl (by repeat (first | exact Mh | apply Mt)) (q_ld_c8b32b32_0_72 (by assumption) (by assumption)) (q_len_c8b32b32 (by assumption) (by assumption))) rfl rfl rfl H1 ?_
  clear H1; intro a2 H2
  refine st_callg rfl z_call59 rfl rfl rfl rfl H2 (tbody t wf _) ?_
  clear H2; intro a3 wx3 H3
  refine plain (y_move rfl rfl) rfl rfl rfl H3 ?_
  clear H3; intro a4 H4
  refine plain (y_extract rfl rfl rfl) rfl rfl rfl H4 ?_
  clear H4; intro a5 H5
  refine plain (y_extract rfl rfl rfl) rfl rfl rfl H5 ?_
  clear H5; intro a6 H6
  refine plain (y_assign rfl rfl) rfl rfl rfl H6 ?_
  clear H6; intro a7 H7
  refine plain (y_assign rfl rfl) rfl rfl rfl H7 ?_
  clear H7; intro a8 H8
  refine fin ?_
  refine then_n ?_
  refine wp_seq ?_
  refine reg ?_
  refine plain (y_move rfl rfl) rfl rfl rfl H8 ?_
  clear H8; intro a9 H9
  refine plain (y_move rfl rfl) rfl rfl rfl H9 ?_
  clear H9; intro a10 H10
  refine plain (y_fieldB rfl z_field50_8 rfl (by first | (simp only [Nat.zero_add, Nat.add_zero, Nat.reduceAdd]; rfl) | rfl)) rfl rfl rfl H10 ?_
  clear H10; intro a11 H11
  refine plain (y_loadAB rfl z_agg28 z_size28 rfl (by repeat (first | exact Mh | apply Mt)) (q_ld_c8b32b32_8_32 (by assumption)) (q_len_b32 (by assumption))) rfl rfl rfl H11 ?_
  clear H11; intro a12 H12
  refine st_callg rfl z_call60 rfl rfl rfl rfl H12 (scheck who 2 hw (by decide) (Txs.body t).1 (by omega) t.hand whd (hG.frm H12.sep.frm hz)) ?_
  clear H12; intro a13 wx13 H13
  refine plain (y_eql rfl rfl rfl) rfl rfl rfl H13 ?_
  clear H13; intro a14 H14
  refine plain (y_assign rfl rfl) rfl rfl rfl H14 ?_
  clear H14; intro a15 H15
  refine fin ?_
  refine then_n ?_
  refine wp_ret ?_
  -- return 1
  refine ret1 rfl H15 rfl ?_
  exact ⟨_, _, rfl, ⟨[], rfl, rfl, rfl⟩, H15.sep⟩
theorem ltheirs (bT : Nat) (t : Txs.Tx) (wf : Txs.Tx.Wf t) (who : Int) (hw : Note.I64 who) {w : World} (hp : (It.blk bT 50 (Txs.Tx.cells t)).P w) (hG : Glob 0 Sha.K w) (hne : 0 ≠ bT) : Calls Tryd.prog 58 #[.int .i64 who, .pointer (some ⟨bT, 0, none⟩)] w (Gives (.bool (decide (Seal.check who 2 (Txs.body t).1 t.hand = 0))) [] w) := Post.still hp (ltheirs0 bT t wf who hw hp hG (by intro hm; exact absurd (List.mem_singleton.1 hm) hne))
set_option maxRecDepth 100000 in
set_option maxHeartbeats 4000000 in
theorem lcheck (len : Int) (L : List Lane.Held) (f : Int → Option Value) (hg : Lane.Good ⟨len, L⟩) (hT : Lane.Turns L f) (t : Txs.Tx) (wf : Txs.Tx.Wf t) (now : Int) (hnow : Note.I64 now) (b h u : Nat) {w : World} (hb : (It.blk b 101 (Lane.lc len h u)).P w) (hh : (It.mp h (Lane.hm L)).P w) (hu : (It.mp u f).P w) (hG : Glob 0 Sha.K w) : Calls Tryd.prog 27 #[.pointer (some ⟨b, 0, none⟩), .agg (Txs.Tx.cells t).toArray, .int .i64 now] w (Gives (.int .i64 (Lane.check ⟨len, L⟩ t now)) [] w) := by
  have whd := wf.hand
  have wtg := wf.tag
  have lz32 : (List.replicate 32 (0 : UInt8)).length = 32 := List.length_replicate
  have lz0 := wf.hand
  have lz1 := wf.tag
  refine enterL (args := [.pointer (some ⟨b, 0, none⟩), .agg (Txs.Tx.cells t).toArray, .int .i64 now]) Tryd.func27 rfl rfl (l := []) (Sep.refl _) ?_
  intro a0 H0
  refine wp_seq ?_
  refine reg ?_
  refine st_box rfl rfl (agg_cells _) rfl rfl rfl H0 ?_
  clear H0; intro b1 a1 wx1 H1
  refine plain (y_assign rfl rfl) rfl rfl rfl H1 ?_
  clear H1; intro a2 H2
  refine fin ?_
  refine then_n ?_
  refine wp_seq ?_
  refine wp_seq ?_
  refine reg ?_
  refine plain (y_move rfl rfl) rfl rfl rfl H2 ?_
  clear H2; intro a3 H3
  refine plain (y_peql rfl Tryd.underlying39 rfl rfl) rfl rfl rfl H3 ?_
  clear H3; intro a4 H4
  refine fin ?_
  refine then_n ?_
  refine cnd_f H4 rfl ?_
  refine wp_skip ?_
  refine then_n ?_
  refine wp_seq ?_
  refine wp_seq ?_
  refine reg ?_
  refine plain (y_loadAB rfl z_agg50 z_size50 rfl (by repeat (first | exact Mh | apply Mt)) (q_ld_c8b32b32_0_72 (by assumption) (by assumption)) (q_len_c8b32b32 (by assumption) (by assumption))) rfl rfl rfl H4 ?_
  clear H4; intro a6 H6
  refine st_callg rfl z_call57 rfl rfl rfl rfl H6 (tcheck t wf _) ?_
  clear H6; intro a7 wx7 H7
  refine plain (y_assign rfl rfl) rfl rfl rfl H7 ?_
  clear H7; intro a8 H8
  refine fin ?_
  refine then_n ?_
  refine wp_seq ?_
  refine reg ?_
  refine plain (y_move rfl rfl) rfl rfl rfl H8 ?_
  clear H8; intro a9 H9
  refine plain (y_neq rfl rfl rfl) rfl rfl rfl H9 ?_
  clear H9; intro a10 H10
  refine fin ?_
  refine then_n ?_
  refine cnd H10 rfl (fun hc11 => ?_) (fun hc11 => ?_) -- cond 2
  · skip
    try simp only [decide_eq_true_eq, decide_eq_false_iff_not, Bool.not_eq_true', Bool.not_eq_false', Bool.and_eq_true, Bool.not_eq_true, Bool.not_eq_false] at hc11
    have hc1 := hc11
    refine wp_seq ?_
    refine reg ?_
    refine plain (y_move rfl rfl) rfl rfl rfl H10 ?_
    clear H10; intro a12 H12
    refine plain (y_assign rfl rfl) rfl rfl rfl H12 ?_
    clear H12; intro a13 H13
    refine fin ?_
    refine then_n ?_
    refine wp_ret ?_
    refine then_r ?_
    -- return 1
    refine ret1 rfl H13 rfl ?_
    first | (have hz := Lane.chk_tx (l := ⟨len, L⟩) (now := now) hc1; exact ⟨_, [], rfl, ⟨by rw [hz], rfl⟩, H13.sep.sub (List.nil_sublist _)⟩) | (have hz := Lane.chk_lane (l := ⟨len, L⟩) (now := now) hc2 hl1; exact ⟨_, [], rfl, ⟨by rw [hz], rfl⟩, H13.sep.sub (List.nil_sublist _)⟩) | (have hz := Lane.chk_round (l := ⟨len, L⟩) (now := now) hc2 hl2 hr1; exact ⟨_, [], rfl, ⟨by rw [hz], rfl⟩, H13.sep.sub (List.nil_sublist _)⟩) | (have hz := Lane.chk_none (l := ⟨len, L⟩) (now := now) hc2 hl2 hr2 hn1; exact ⟨_, [], rfl, ⟨by rw [hz], rfl⟩, H13.sep.sub (List.nil_sublist _)⟩) | (have hz := Lane.chk_tag hg hc2 hl2 hr2 hn2 ht1; exact ⟨_, [], rfl, ⟨by rw [hz], rfl⟩, H13.sep.sub (List.nil_sublist _)⟩) | (have hz := Lane.chk_turn hg hc2 hl2 hr2 hn2 ht2 hu1; exact ⟨_, [], rfl, ⟨by rw [hz], rfl⟩, H13.sep.sub (List.nil_sublist _)⟩) | (have hz := Lane.chk_ok hg hc2 hl2 hr2 hn2 ht2 hu2; exact ⟨_, [], rfl, ⟨by rw [hz], rfl⟩, H13.sep.sub (List.nil_sublist _)⟩)
  · skip
    try simp only [decide_eq_true_eq, decide_eq_false_iff_not, Bool.not_eq_true', Bool.not_eq_false', Bool.and_eq_true, Bool.not_eq_true, Bool.not_eq_false] at hc11
    have hc2 := hc11
    refine wp_skip ?_
    refine then_n ?_
    refine wp_seq ?_
    refine reg ?_
    refine plain (y_fn rfl rfl rfl) rfl rfl rfl H10 ?_
    clear H10; intro a14 H14
    refine plain (y_assign rfl rfl) rfl rfl rfl H14 ?_
    clear H14; intro a15 H15
    refine fin ?_
    refine then_n ?_
    refine wp_seq ?_
    refine reg ?_
    refine plain (y_move rfl rfl) rfl rfl rfl H15 ?_
    clear H15; intro a16 H16
    refine plain (y_fieldB rfl z_field50_6 rfl (by first | (simp only [Nat.zero_add, Nat.add_zero, Nat.reduceAdd]; rfl) | rfl)) rfl rfl rfl H16 ?_
    clear H16; intro a17 H17
    refine plain (y_loadB rfl z_agg3 rfl (by repeat (first | exact Mh | apply Mt)) q_ix_c8b32b32_6) rfl rfl rfl H17 ?_
    clear H17; intro a18 H18
    refine st_callg rfl z_call23 rfl rfl rfl rfl H18 (lholder len L t.round b h u (H18.sep.keep hb) (H18.sep.keep hh)) ?_
    clear H18; intro a19 wx19 H19
    refine plain (y_move rfl rfl) rfl rfl rfl H19 ?_
    clear H19; intro a20 H20
    refine plain (y_extract rfl rfl rfl) rfl rfl rfl H20 ?_
    clear H20; intro a21 H21
    refine plain (y_extract rfl rfl rfl) rfl rfl rfl H21 ?_
    clear H21; intro a22 H22
    refine plain (y_assign rfl rfl) rfl rfl rfl H22 ?_
    clear H22; intro a23 H23
    refine plain (y_assign rfl rfl) rfl rfl rfl H23 ?_
    clear H23; intro a24 H24
    refine fin ?_
    refine then_n ?_
    refine wp_seq ?_
    refine wp_block ?_
    refine wp_seq ?_
    refine reg ?_
    refine plain (y_fieldB rfl z_field50_5 rfl (by first | (simp only [Nat.zero_add, Nat.add_zero, Nat.reduceAdd]; rfl) | rfl)) rfl rfl rfl H24 ?_
    clear H24; intro a25 H25
    refine plain (y_loadB rfl z_agg4 rfl (by repeat (first | exact Mh | apply Mt)) q_ix_c8b32b32_5) rfl rfl rfl H25 ?_
    clear H25; intro a26 H26
    refine plain ((by first | exact y_not_d rfl rfl | exact y_not rfl rfl)) rfl rfl rfl H26 ?_
    clear H26; intro a27 H27
    refine plain (y_assign rfl rfl) rfl rfl rfl H27 ?_
    clear H27; intro a28 H28
    refine fin ?_
    refine then_n ?_
    refine cnd H28 rfl (fun hc29 => ?_) (fun hc29 => ?_) -- cond 3
    · skip
      try simp only [decide_eq_true_eq, decide_eq_false_iff_not, Bool.not_eq_true', Bool.not_eq_false', Bool.and_eq_true, Bool.not_eq_true, Bool.not_eq_false] at hc29
      have hl1 : t.lane = false := by simpa using hc29
      refine wp_seq ?_
      refine reg ?_
      refine plain (y_assign rfl rfl) rfl rfl rfl H28 ?_
      clear H28; intro a30 H30
      refine fin ?_
      refine then_n ?_
      refine wp_ret ?_
      refine inb_r ?_
      refine then_r ?_
      -- return 2
      refine ret1 rfl H30 rfl ?_
      first | (have hz := Lane.chk_tx (l := ⟨len, L⟩) (now := now) hc1; exact ⟨_, [], rfl, ⟨by rw [hz], rfl⟩, H30.sep.sub (List.nil_sublist _)⟩) | (have hz := Lane.chk_lane (l := ⟨len, L⟩) (now := now) hc2 hl1; exact ⟨_, [], rfl, ⟨by rw [hz], rfl⟩, H30.sep.sub (List.nil_sublist _)⟩) | (have hz := Lane.chk_round (l := ⟨len, L⟩) (now := now) hc2 hl2 hr1; exact ⟨_, [], rfl, ⟨by rw [hz], rfl⟩, H30.sep.sub (List.nil_sublist _)⟩) | (have hz := Lane.chk_none (l := ⟨len, L⟩) (now := now) hc2 hl2 hr2 hn1; exact ⟨_, [], rfl, ⟨by rw [hz], rfl⟩, H30.sep.sub (List.nil_sublist _)⟩) | (have hz := Lane.chk_tag hg hc2 hl2 hr2 hn2 ht1; exact ⟨_, [], rfl, ⟨by rw [hz], rfl⟩, H30.sep.sub (List.nil_sublist _)⟩) | (have hz := Lane.chk_turn hg hc2 hl2 hr2 hn2 ht2 hu1; exact ⟨_, [], rfl, ⟨by rw [hz], rfl⟩, H30.sep.sub (List.nil_sublist _)⟩) | (have hz := Lane.chk_ok hg hc2 hl2 hr2 hn2 ht2 hu2; exact ⟨_, [], rfl, ⟨by rw [hz], rfl⟩, H30.sep.sub (List.nil_sublist _)⟩)
    · skip
      try simp only [decide_eq_true_eq, decide_eq_false_iff_not, Bool.not_eq_true', Bool.not_eq_false', Bool.and_eq_true, Bool.not_eq_true, Bool.not_eq_false] at hc29
      have hl2 : t.lane = true := by simpa using hc29
      refine wp_seq ?_
      refine qreg (by kernel_rfl) (by kernel_rfl) H28 ?_
      have F31 := H28.fr
      clear H28
      refine qplain (y_fieldB rfl z_field50_6 rfl (by first | (simp only [Nat.zero_add, Nat.add_zero, Nat.reduceAdd]; rfl) | rfl)) rfl rfl rfl F31 ?_
      clear F31; intro a32 H32
      refine qplain (y_loadB rfl z_agg3 rfl (by repeat (first | exact Mh | apply Mt)) q_ix_c8b32b32_6) rfl rfl rfl H32 ?_
      clear H32; intro a33 H33
      refine qplain (y_move rfl rfl) rfl rfl rfl H33 ?_
      clear H33; intro a34 H34
      refine qplain (y_move rfl rfl) rfl rfl rfl H34 ?_
      clear H34; intro a35 H35
      refine qcallg rfl z_call19 rfl rfl rfl rfl H35 (fun w hs => (lround len now hg.len.1 hnow b h u (hs.keep hb))) ?_
      clear H35; intro a36 H36
      refine qplain (y_neq rfl rfl rfl) rfl rfl rfl H36 ?_
      clear H36; intro a37 H37
      refine qplain (y_assign rfl rfl) rfl rfl rfl H37 ?_
      clear H37; intro a38 H38
      refine qfin H38 ?_
      clear H38; intro wx39 H39
      refine then_n ?_
      refine cnd H39 rfl (fun hc40 => ?_) (fun hc40 => ?_) -- cond 4
      · skip
        try simp only [decide_eq_true_eq, decide_eq_false_iff_not, Bool.not_eq_true', Bool.not_eq_false', Bool.and_eq_true, Bool.not_eq_true, Bool.not_eq_false] at hc40
        have hr1 := hc40
        refine wp_seq ?_
        refine reg ?_
        refine plain (y_assign rfl rfl) rfl rfl rfl H39 ?_
        clear H39; intro a41 H41
        refine fin ?_
        refine then_n ?_
        refine wp_ret ?_
        refine inb_r ?_
        refine then_r ?_
        -- return 3
        refine ret1 rfl H41 rfl ?_
        first | (have hz := Lane.chk_tx (l := ⟨len, L⟩) (now := now) hc1; exact ⟨_, [], rfl, ⟨by rw [hz], rfl⟩, H41.sep.sub (List.nil_sublist _)⟩) | (have hz := Lane.chk_lane (l := ⟨len, L⟩) (now := now) hc2 hl1; exact ⟨_, [], rfl, ⟨by rw [hz], rfl⟩, H41.sep.sub (List.nil_sublist _)⟩) | (have hz := Lane.chk_round (l := ⟨len, L⟩) (now := now) hc2 hl2 hr1; exact ⟨_, [], rfl, ⟨by rw [hz], rfl⟩, H41.sep.sub (List.nil_sublist _)⟩) | (have hz := Lane.chk_none (l := ⟨len, L⟩) (now := now) hc2 hl2 hr2 hn1; exact ⟨_, [], rfl, ⟨by rw [hz], rfl⟩, H41.sep.sub (List.nil_sublist _)⟩) | (have hz := Lane.chk_tag hg hc2 hl2 hr2 hn2 ht1; exact ⟨_, [], rfl, ⟨by rw [hz], rfl⟩, H41.sep.sub (List.nil_sublist _)⟩) | (have hz := Lane.chk_turn hg hc2 hl2 hr2 hn2 ht2 hu1; exact ⟨_, [], rfl, ⟨by rw [hz], rfl⟩, H41.sep.sub (List.nil_sublist _)⟩) | (have hz := Lane.chk_ok hg hc2 hl2 hr2 hn2 ht2 hu2; exact ⟨_, [], rfl, ⟨by rw [hz], rfl⟩, H41.sep.sub (List.nil_sublist _)⟩)
      · skip
        try simp only [decide_eq_true_eq, decide_eq_false_iff_not, Bool.not_eq_true', Bool.not_eq_false', Bool.and_eq_true, Bool.not_eq_true, Bool.not_eq_false] at hc40
        have hr2 := hc40
        refine wp_seq ?_
        refine reg ?_
        refine plain (y_move rfl rfl) rfl rfl rfl H39 ?_
        clear H39; intro a42 H42
        refine plain ((by first | exact y_not_d rfl rfl | exact y_not rfl rfl)) rfl rfl rfl H42 ?_
        clear H42; intro a43 H43
        refine plain (y_assign rfl rfl) rfl rfl rfl H43 ?_
        clear H43; intro a44 H44
        refine fin ?_
        refine then_n ?_
        refine cnd H44 rfl (fun hc45 => ?_) (fun hc45 => ?_) -- cond 5
        · skip
          try simp only [decide_eq_true_eq, decide_eq_false_iff_not, Bool.not_eq_true', Bool.not_eq_false', Bool.and_eq_true, Bool.not_eq_true, Bool.not_eq_false] at hc45
          have hn1 : (Lane.whoOf L t.round).2 = false := by simpa using hc45
          refine wp_seq ?_
          refine reg ?_
          refine plain (y_assign rfl rfl) rfl rfl rfl H44 ?_
          clear H44; intro a46 H46
          refine fin ?_
          refine then_n ?_
          refine wp_ret ?_
          refine inb_r ?_
          refine then_r ?_
          -- return 4
          refine ret1 rfl H46 rfl ?_
          first | (have hz := Lane.chk_tx (l := ⟨len, L⟩) (now := now) hc1; exact ⟨_, [], rfl, ⟨by rw [hz], rfl⟩, H46.sep.sub (List.nil_sublist _)⟩) | (have hz := Lane.chk_lane (l := ⟨len, L⟩) (now := now) hc2 hl1; exact ⟨_, [], rfl, ⟨by rw [hz], rfl⟩, H46.sep.sub (List.nil_sublist _)⟩) | (have hz := Lane.chk_round (l := ⟨len, L⟩) (now := now) hc2 hl2 hr1; exact ⟨_, [], rfl, ⟨by rw [hz], rfl⟩, H46.sep.sub (List.nil_sublist _)⟩) | (have hz := Lane.chk_none (l := ⟨len, L⟩) (now := now) hc2 hl2 hr2 hn1; exact ⟨_, [], rfl, ⟨by rw [hz], rfl⟩, H46.sep.sub (List.nil_sublist _)⟩) | (have hz := Lane.chk_tag hg hc2 hl2 hr2 hn2 ht1; exact ⟨_, [], rfl, ⟨by rw [hz], rfl⟩, H46.sep.sub (List.nil_sublist _)⟩) | (have hz := Lane.chk_turn hg hc2 hl2 hr2 hn2 ht2 hu1; exact ⟨_, [], rfl, ⟨by rw [hz], rfl⟩, H46.sep.sub (List.nil_sublist _)⟩) | (have hz := Lane.chk_ok hg hc2 hl2 hr2 hn2 ht2 hu2; exact ⟨_, [], rfl, ⟨by rw [hz], rfl⟩, H46.sep.sub (List.nil_sublist _)⟩)
        · skip
          try simp only [decide_eq_true_eq, decide_eq_false_iff_not, Bool.not_eq_true', Bool.not_eq_false', Bool.and_eq_true, Bool.not_eq_true, Bool.not_eq_false] at hc45
          have hn2 : (Lane.whoOf L t.round).2 = true := by simpa using hc45
          refine wp_seq ?_
          refine reg ?_
          refine plain (y_move rfl rfl) rfl rfl rfl H44 ?_
          clear H44; intro a47 H47
          refine plain (y_move rfl rfl) rfl rfl rfl H47 ?_
          clear H47; intro a48 H48
          refine st_callvg (enters_callv (all := [.int .i64 (Lane.whoOf L t.round).1, .pointer (some ⟨b1, 0, none⟩)]) rfl rfl z_call58 rfl rfl) rfl rfl rfl H48 (ltheirs b1 t wf (Lane.whoOf L t.round).1 (Lane.who64 hg t.round) (H48.sep.all _ (by repeat (first | exact Mh | apply Mt))) (hG.frm H48.sep.frm (by simp)) (fun e => by have hx := fps_new H48.sep (.cons (by repeat (first | exact Ph | apply Pt)) (.nil _) : Picks _ [It.blk b1 50 (Txs.Tx.cells t)] _) hG (by decide); rw [e] at hx; simp [fps, It.blk, It.obj] at hx)) ?_
          clear H48; intro a49 wx49 H49
          refine plain ((by first | exact y_not_d rfl rfl | exact y_not rfl rfl)) rfl rfl rfl H49 ?_
          clear H49; intro a50 H50
          refine plain (y_assign rfl rfl) rfl rfl rfl H50 ?_
          clear H50; intro a51 H51
          refine fin ?_
          refine then_n ?_
          refine cnd H51 rfl (fun hc52 => ?_) (fun hc52 => ?_) -- cond 6
          · skip
            try simp only [decide_eq_true_eq, decide_eq_false_iff_not, Bool.not_eq_true', Bool.not_eq_false', Bool.and_eq_true, Bool.not_eq_true, Bool.not_eq_false] at hc52
            have ht1 := hc52
            refine wp_seq ?_
            refine reg ?_
            refine plain (y_assign rfl rfl) rfl rfl rfl H51 ?_
            clear H51; intro a53 H53
            refine fin ?_
            refine then_n ?_
            refine wp_ret ?_
            refine inb_r ?_
            refine then_r ?_
            -- return 5
            refine ret1 rfl H53 rfl ?_
            first | (have hz := Lane.chk_tx (l := ⟨len, L⟩) (now := now) hc1; exact ⟨_, [], rfl, ⟨by rw [hz], rfl⟩, H53.sep.sub (List.nil_sublist _)⟩) | (have hz := Lane.chk_lane (l := ⟨len, L⟩) (now := now) hc2 hl1; exact ⟨_, [], rfl, ⟨by rw [hz], rfl⟩, H53.sep.sub (List.nil_sublist _)⟩) | (have hz := Lane.chk_round (l := ⟨len, L⟩) (now := now) hc2 hl2 hr1; exact ⟨_, [], rfl, ⟨by rw [hz], rfl⟩, H53.sep.sub (List.nil_sublist _)⟩) | (have hz := Lane.chk_none (l := ⟨len, L⟩) (now := now) hc2 hl2 hr2 hn1; exact ⟨_, [], rfl, ⟨by rw [hz], rfl⟩, H53.sep.sub (List.nil_sublist _)⟩) | (have hz := Lane.chk_tag hg hc2 hl2 hr2 hn2 ht1; exact ⟨_, [], rfl, ⟨by rw [hz], rfl⟩, H53.sep.sub (List.nil_sublist _)⟩) | (have hz := Lane.chk_turn hg hc2 hl2 hr2 hn2 ht2 hu1; exact ⟨_, [], rfl, ⟨by rw [hz], rfl⟩, H53.sep.sub (List.nil_sublist _)⟩) | (have hz := Lane.chk_ok hg hc2 hl2 hr2 hn2 ht2 hu2; exact ⟨_, [], rfl, ⟨by rw [hz], rfl⟩, H53.sep.sub (List.nil_sublist _)⟩)
          · skip
            try simp only [decide_eq_true_eq, decide_eq_false_iff_not, Bool.not_eq_true', Bool.not_eq_false', Bool.and_eq_true, Bool.not_eq_true, Bool.not_eq_false] at hc52
            have ht2 := Decidable.not_not.1 hc52
            refine wp_seq ?_
            refine qreg (by kernel_rfl) (by kernel_rfl) H51 ?_
            have F54 := H51.fr
            clear H51
            refine qplain (y_fieldB rfl z_field50_7 rfl (by first | (simp only [Nat.zero_add, Nat.add_zero, Nat.reduceAdd]; rfl) | rfl)) rfl rfl rfl F54 ?_
            clear F54; intro a55 H55
            refine qplain (y_loadB rfl z_agg3 rfl (by repeat (first | exact Mh | apply Mt)) q_ix_c8b32b32_7) rfl rfl rfl H55 ?_
            clear H55; intro a56 H56
            refine qplain (y_move rfl rfl) rfl rfl rfl H56 ?_
            clear H56; intro a57 H57
            refine qplain (y_fieldB rfl z_field50_6 rfl (by first | (simp only [Nat.zero_add, Nat.add_zero, Nat.reduceAdd]; rfl) | rfl)) rfl rfl rfl H57 ?_
            clear H57; intro a58 H58
            refine qplain (y_loadB rfl z_agg3 rfl (by repeat (first | exact Mh | apply Mt)) q_ix_c8b32b32_6) rfl rfl rfl H58 ?_
            clear H58; intro a59 H59
            refine qcallg rfl z_call25 rfl rfl rfl rfl H59 (fun w hs => (lturn len L f hT t.round b h u (hs.keep hb) (hs.keep hu))) ?_
            clear H59; intro a60 H60
            refine qplain (y_neq rfl rfl rfl) rfl rfl rfl H60 ?_
            clear H60; intro a61 H61
            refine qplain (y_assign rfl rfl) rfl rfl rfl H61 ?_
            clear H61; intro a62 H62
            refine qfin H62 ?_
            clear H62; intro wx63 H63
            refine then_n ?_
            refine cnd H63 rfl (fun hc64 => ?_) (fun hc64 => ?_) -- cond 7
            · skip
              try simp only [decide_eq_true_eq, decide_eq_false_iff_not, Bool.not_eq_true', Bool.not_eq_false', Bool.and_eq_true, Bool.not_eq_true, Bool.not_eq_false] at hc64
              have hu1 := hc64
              refine wp_seq ?_
              refine reg ?_
              refine plain (y_assign rfl rfl) rfl rfl rfl H63 ?_
              clear H63; intro a65 H65
              refine fin ?_
              refine then_n ?_
              refine wp_ret ?_
              refine inb_r ?_
              refine then_r ?_
              -- return 6
              refine ret1 rfl H65 rfl ?_
              first | (have hz := Lane.chk_tx (l := ⟨len, L⟩) (now := now) hc1; exact ⟨_, [], rfl, ⟨by rw [hz], rfl⟩, H65.sep.sub (List.nil_sublist _)⟩) | (have hz := Lane.chk_lane (l := ⟨len, L⟩) (now := now) hc2 hl1; exact ⟨_, [], rfl, ⟨by rw [hz], rfl⟩, H65.sep.sub (List.nil_sublist _)⟩) | (have hz := Lane.chk_round (l := ⟨len, L⟩) (now := now) hc2 hl2 hr1; exact ⟨_, [], rfl, ⟨by rw [hz], rfl⟩, H65.sep.sub (List.nil_sublist _)⟩) | (have hz := Lane.chk_none (l := ⟨len, L⟩) (now := now) hc2 hl2 hr2 hn1; exact ⟨_, [], rfl, ⟨by rw [hz], rfl⟩, H65.sep.sub (List.nil_sublist _)⟩) | (have hz := Lane.chk_tag hg hc2 hl2 hr2 hn2 ht1; exact ⟨_, [], rfl, ⟨by rw [hz], rfl⟩, H65.sep.sub (List.nil_sublist _)⟩) | (have hz := Lane.chk_turn hg hc2 hl2 hr2 hn2 ht2 hu1; exact ⟨_, [], rfl, ⟨by rw [hz], rfl⟩, H65.sep.sub (List.nil_sublist _)⟩) | (have hz := Lane.chk_ok hg hc2 hl2 hr2 hn2 ht2 hu2; exact ⟨_, [], rfl, ⟨by rw [hz], rfl⟩, H65.sep.sub (List.nil_sublist _)⟩)
            · skip
              try simp only [decide_eq_true_eq, decide_eq_false_iff_not, Bool.not_eq_true', Bool.not_eq_false', Bool.and_eq_true, Bool.not_eq_true, Bool.not_eq_false] at hc64
              have hu2 := hc64
              refine wp_skip ?_
              refine inb_n ?_
              refine then_n ?_
              refine wp_seq ?_
              refine reg ?_
              refine plain (y_assign rfl rfl) rfl rfl rfl H63 ?_
              clear H63; intro a66 H66
              refine fin ?_
              refine then_n ?_
              refine wp_ret ?_
              -- return 7
              refine ret1 rfl H66 rfl ?_
              first | (have hz := Lane.chk_tx (l := ⟨len, L⟩) (now := now) hc1; exact ⟨_, [], rfl, ⟨by rw [hz], rfl⟩, H66.sep.sub (List.nil_sublist _)⟩) | (have hz := Lane.chk_lane (l := ⟨len, L⟩) (now := now) hc2 hl1; exact ⟨_, [], rfl, ⟨by rw [hz], rfl⟩, H66.sep.sub (List.nil_sublist _)⟩) | (have hz := Lane.chk_round (l := ⟨len, L⟩) (now := now) hc2 hl2 hr1; exact ⟨_, [], rfl, ⟨by rw [hz], rfl⟩, H66.sep.sub (List.nil_sublist _)⟩) | (have hz := Lane.chk_none (l := ⟨len, L⟩) (now := now) hc2 hl2 hr2 hn1; exact ⟨_, [], rfl, ⟨by rw [hz], rfl⟩, H66.sep.sub (List.nil_sublist _)⟩) | (have hz := Lane.chk_tag hg hc2 hl2 hr2 hn2 ht1; exact ⟨_, [], rfl, ⟨by rw [hz], rfl⟩, H66.sep.sub (List.nil_sublist _)⟩) | (have hz := Lane.chk_turn hg hc2 hl2 hr2 hn2 ht2 hu1; exact ⟨_, [], rfl, ⟨by rw [hz], rfl⟩, H66.sep.sub (List.nil_sublist _)⟩) | (have hz := Lane.chk_ok hg hc2 hl2 hr2 hn2 ht2 hu2; exact ⟨_, [], rfl, ⟨by rw [hz], rfl⟩, H66.sep.sub (List.nil_sublist _)⟩)
set_option maxRecDepth 100000 in
set_option maxHeartbeats 4000000 in
theorem ltake (len : Int) (L : List Lane.Held) (f : Int → Option Value) (hg : Lane.Good ⟨len, L⟩) (hT : Lane.Turns L f) (t : Txs.Tx) (wf : Txs.Tx.Wf t) (now : Int) (hnow : Note.I64 now) (b h u : Nat) {w : World} (hs : Sep (fps [It.blk b 101 (Lane.lc len h u), It.mp h (Lane.hm L), It.mp u f]) w w [It.blk b 101 (Lane.lc len h u), It.mp h (Lane.hm L), It.mp u f]) (hG : Glob 0 Sha.K w) (hz : 0 ∉ fps [It.blk b 101 (Lane.lc len h u), It.mp h (Lane.hm L), It.mp u f]) : Calls Tryd.prog 28 #[.pointer (some ⟨b, 0, none⟩), .agg (Txs.Tx.cells t).toArray, .int .i64 now] w (Post (fps [It.blk b 101 (Lane.lc len h u), It.mp h (Lane.hm L), It.mp u f]) w fun v l' => v = .int .i64 (Lane.take ⟨len, L⟩ t now).2 ∧ ∃ f', Lane.Turns (Lane.take ⟨len, L⟩ t now).1.L f' ∧ l' = [It.blk b 101 (Lane.lc len h u), It.mp h (Lane.hm (Lane.take ⟨len, L⟩ t now).1.L), It.mp u f']) := by
  have whd := wf.hand
  have wtg := wf.tag
  have lz32 : (List.replicate 32 (0 : UInt8)).length = 32 := List.length_replicate
  have lz0 := wf.hand
  have lz1 := wf.tag
  refine enterL (args := [.pointer (some ⟨b, 0, none⟩), .agg (Txs.Tx.cells t).toArray, .int .i64 now]) Tryd.func28 rfl rfl (l := [It.blk b 101 (Lane.lc len h u), It.mp h (Lane.hm L), It.mp u f]) hs ?_
  intro a0 H0
  refine wp_seq ?_
  refine reg ?_
  refine st_box rfl rfl (agg_cells _) rfl rfl rfl H0 ?_
  clear H0; intro b1 a1 wx1 H1
  refine plain (y_assign rfl rfl) rfl rfl rfl H1 ?_
  clear H1; intro a2 H2
  refine fin ?_
  refine then_n ?_
  refine wp_seq ?_
  refine reg ?_
  refine plain (y_move rfl rfl) rfl rfl rfl H2 ?_
  clear H2; intro a3 H3
  refine plain (y_loadAB rfl z_agg50 z_size50 rfl (by repeat (first | exact Mh | apply Mt)) (q_ld_c8b32b32_0_72 (by assumption) (by assumption)) (q_len_c8b32b32 (by assumption) (by assumption))) rfl rfl rfl H3 ?_
  clear H3; intro a4 H4
  refine plain (y_move rfl rfl) rfl rfl rfl H4 ?_
  clear H4; intro a5 H5
  refine st_callg rfl z_call27 rfl rfl rfl rfl H5 (lcheck len L f hg hT t wf now hnow b h u (H5.sep.all _ (by repeat (first | exact Mh | apply Mt))) (H5.sep.all _ (by repeat (first | exact Mh | apply Mt))) (H5.sep.all _ (by repeat (first | exact Mh | apply Mt))) (hG.frm H5.sep.frm hz)) ?_
  clear H5; intro a6 wx6 H6
  refine plain (y_assign rfl rfl) rfl rfl rfl H6 ?_
  clear H6; intro a7 H7
  refine fin ?_
  refine then_n ?_
  refine wp_seq ?_
  refine wp_seq ?_
  refine reg ?_
  refine plain (y_move rfl rfl) rfl rfl rfl H7 ?_
  clear H7; intro a8 H8
  refine plain (y_eql rfl rfl rfl) rfl rfl rfl H8 ?_
  clear H8; intro a9 H9
  refine fin ?_
  refine then_n ?_
  refine cnd H9 rfl (fun hc10 => ?_) (fun hc10 => ?_) -- cond 1
  · skip
    try simp only [decide_eq_true_eq, decide_eq_false_iff_not, Bool.not_eq_true', Bool.not_eq_false', Bool.and_eq_true, Bool.not_eq_true, Bool.not_eq_false] at hc10
    have hCK0 := congrArg (Value.int .i64) hc10
    obtain ⟨y, hy, hyt, hyb, hyx⟩ := Lane.take_is (l := ⟨len, L⟩) hc10
    refine hreg [It.blk b1 50 (Txs.Tx.cells t), It.blk b 101 (Lane.lc len h u), It.mp h (Lane.hm L)] (fun _ h => (h.sub (by first | exact S0 | exact S1 | repeat (first | exact S1 | exact S0 | apply S2 | apply S3)))) (by kernel_rfl) H9 ?_
    clear H9; intro wx11 H11
    refine htake 0 rfl (by kernel_rfl) (y_move rfl rfl) rfl rfl rfl (fun _ h => (h.sub (by first | exact S0 | exact S1 | repeat (first | exact S1 | exact S0 | apply S2 | apply S3)))) H11 ?_
    clear H11; intro a12 H12
    refine htake 1 rfl (by kernel_rfl) (y_nilCheck rfl rfl) rfl rfl rfl (fun _ h => (h.sub (by first | exact S0 | exact S1 | repeat (first | exact S1 | exact S0 | apply S2 | apply S3)))) H12 ?_
    clear H12; intro a13 H13
    refine htake 2 rfl (by kernel_rfl) (y_fieldB rfl z_field101_2 rfl (by first | (simp only [Nat.zero_add, Nat.add_zero, Nat.reduceAdd]; rfl) | rfl)) rfl rfl rfl (fun _ h => (h.sub (by first | exact S0 | exact S1 | repeat (first | exact S1 | exact S0 | apply S2 | apply S3)))) H13 ?_
    clear H13; intro a14 H14
    refine htake 3 rfl (by kernel_rfl) (y_loadB rfl z_agg99 rfl (by repeat (first | exact Mh | apply Mt)) q_ix_c3_2) rfl rfl rfl (fun _ h => (h.sub (by first | exact S0 | exact S1 | repeat (first | exact S1 | exact S0 | apply S2 | apply S3)))) H14 ?_
    clear H14; intro a15 H15
    refine htake 4 rfl (by kernel_rfl) (y_fieldB rfl z_field50_6 rfl (by first | (simp only [Nat.zero_add, Nat.add_zero, Nat.reduceAdd]; rfl) | rfl)) rfl rfl rfl (fun _ h => (h.sub (by first | exact S0 | exact S1 | repeat (first | exact S1 | exact S0 | apply S2 | apply S3)))) H15 ?_
    clear H15; intro a16 H16
    refine htake 5 rfl (by kernel_rfl) (y_loadB rfl z_agg3 rfl (by repeat (first | exact Mh | apply Mt)) q_ix_c8b32b32_6) rfl rfl rfl (fun _ h => (h.sub (by first | exact S0 | exact S1 | repeat (first | exact S1 | exact S0 | apply S2 | apply S3)))) H16 ?_
    clear H16; intro a17 H17
    refine hgo 6 rfl (by kernel_rfl) ?_
    refine plain (y_lookup rfl Tryd.underlying99 Tryd.underlying3 z_zval3 rfl rfl (by repeat (first | exact Mh | apply Mt))) rfl rfl rfl H17 ?_
    clear H17; intro a18 H18
    refine hfin (H18.sep.sub (by first | exact S0 | exact S1 | repeat (first | exact S1 | exact S0 | apply S2 | apply S3))) ?_
    replace H18 := H18.know (d := 20) rfl (hT t.round)
    rw [show Lane.turnOf L t.round = y.turn from hyt] at H18
    refine htake 7 rfl (by kernel_rfl) (y_add rfl rfl rfl (by first | exact w64 (by omega) (by omega) | rfl)) rfl rfl rfl (fun _ h => (h.sub (by first | exact S0 | exact S1 | repeat (first | exact S1 | exact S0 | apply S2 | apply S3)))) H18 ?_
    clear H18; intro a19 H19
    refine hgo 8 rfl (by kernel_rfl) ?_
    refine st_mapUpdate rfl Tryd.underlying99 Tryd.underlying3 rfl rfl rfl (by repeat (first | exact Uh | apply Ut)) rfl rfl H19 ?_
    clear H19; intro wx20 H20
    refine hfin (H20.sep.sub (by first | exact S0 | exact S1 | repeat (first | exact S1 | exact S0 | apply S2 | apply S3))) ?_
    refine hdone (by kernel_rfl) ?_
    refine then_n ?_
    refine wp_seq ?_
    refine reg ?_
    refine plain (y_move rfl rfl) rfl rfl rfl H20 ?_
    clear H20; intro a21 H21
    refine plain (y_assign rfl rfl) rfl rfl rfl H21 ?_
    clear H21; intro a22 H22
    refine fin ?_
    refine then_n ?_
    refine wp_ret ?_
    -- return 1
    refine ret1 rfl H22 rfl ?_
    first | (have hzz := hyx; rw [hyx]; exact ⟨_, _, rfl, ⟨hCK0, _, Lane.turns_take hy _ _ hT, by dsimp only; rw [Lane.hm_same hy]; rfl⟩, H22.sep.sub (List.Sublist.cons _ (List.Sublist.refl _))⟩) | (rw [Lane.take_no hno]; exact ⟨_, _, rfl, ⟨rfl, f, hT, rfl⟩, H22.sep.sub (List.Sublist.cons _ (List.Sublist.refl _))⟩)
  · skip
    try simp only [decide_eq_true_eq, decide_eq_false_iff_not, Bool.not_eq_true', Bool.not_eq_false', Bool.and_eq_true, Bool.not_eq_true, Bool.not_eq_false] at hc10
    have hno := hc10
    refine wp_skip ?_
    refine then_n ?_
    refine wp_seq ?_
    refine reg ?_
    refine plain (y_move rfl rfl) rfl rfl rfl H9 ?_
    clear H9; intro a23 H23
    refine plain (y_assign rfl rfl) rfl rfl rfl H23 ?_
    clear H23; intro a24 H24
    refine fin ?_
    refine then_n ?_
    refine wp_ret ?_
    -- return 2
    refine ret1 rfl H24 rfl ?_
    first | (have hzz := hyx; rw [hyx]; exact ⟨_, _, rfl, ⟨hCK0, _, Lane.turns_take hy _ _ hT, by dsimp only; rw [Lane.hm_same hy]; rfl⟩, H24.sep.sub (List.Sublist.cons _ (List.Sublist.refl _))⟩) | (rw [Lane.take_no hno]; exact ⟨_, _, rfl, ⟨rfl, f, hT, rfl⟩, H24.sep.sub (List.Sublist.cons _ (List.Sublist.refl _))⟩)
end Go.Proofs.YtaeahloenahelaaDoor.A_Ln3

set_option linter.unusedVariables false
set_option linter.unusedSimpArgs false
namespace Go.Proofs.YtaeahloenahelaaDoor.A_RBody
open Go.Sx Go.RowKit Go.Proofs.YtaeahloenahelaaDoor.A_Num Go.Proofs.YtaeahloenahelaaDoor.A_Tx

theorem z_call96 : callB Tryd.prog 96 = true := by kernel_rfl
theorem z_agg50 : aggB Tryd.prog 50 = some true := by kernel_rfl
theorem z_size50 : sizeB Tryd.prog 50 = some 72 := by kernel_rfl
theorem q_ld_c8b32b32_0_72 {a0 a1 a2 a3 a4 a5 a6 a7 : Value} {t8 t9 : List UInt8} (h8 : t8.length = 32) (h9 : t9.length = 32) : ((a0 :: a1 :: a2 :: a3 :: a4 :: a5 :: a6 :: a7 :: (t8.map u8 ++ (t9.map u8))).drop 0).take 72 = a0 :: a1 :: a2 :: a3 :: a4 :: a5 :: a6 :: a7 :: (t8.map u8 ++ (t9.map u8)) := (ld_a (len_c (n := 71) (len_c (n := 70) (len_c (n := 69) (len_c (n := 68) (len_c (n := 67) (len_c (n := 66) (len_c (n := 65) (len_c (n := 64) (len_b (k := 32) (n := 32) h8 (len_e (k := 32) h9)))))))))))
theorem q_len_c8b32b32 {a0 a1 a2 a3 a4 a5 a6 a7 : Value} {t8 t9 : List UInt8} (h8 : t8.length = 32) (h9 : t9.length = 32) : (a0 :: a1 :: a2 :: a3 :: a4 :: a5 :: a6 :: a7 :: (t8.map u8 ++ (t9.map u8))).length = 72 := (len_c (n := 71) (len_c (n := 70) (len_c (n := 69) (len_c (n := 68) (len_c (n := 67) (len_c (n := 66) (len_c (n := 65) (len_c (n := 64) (len_b (k := 32) (n := 32) h8 (len_e (k := 32) h9))))))))))
theorem z_call98 : callB Tryd.prog 98 = true := by kernel_rfl
theorem z_field50_0 : fieldB Tryd.prog 50 0 = some 0 := by kernel_rfl
theorem z_agg3 : aggB Tryd.prog 3 = some false := by kernel_rfl
theorem q_ix_c8b32b32_0 {a0 a1 a2 a3 a4 a5 a6 a7 : Value} {t8 t9 : List UInt8} : (a0 :: a1 :: a2 :: a3 :: a4 :: a5 :: a6 :: a7 :: (t8.map u8 ++ (t9.map u8)))[0]? = some a0 := ix_0
theorem z_field50_1 : fieldB Tryd.prog 50 1 = some 1 := by kernel_rfl
theorem q_ix_c8b32b32_1 {a0 a1 a2 a3 a4 a5 a6 a7 : Value} {t8 t9 : List UInt8} : (a0 :: a1 :: a2 :: a3 :: a4 :: a5 :: a6 :: a7 :: (t8.map u8 ++ (t9.map u8)))[1]? = some a1 := (ix_c (o := 0) ix_0)
theorem z_field50_2 : fieldB Tryd.prog 50 2 = some 2 := by kernel_rfl
theorem q_ix_c8b32b32_2 {a0 a1 a2 a3 a4 a5 a6 a7 : Value} {t8 t9 : List UInt8} : (a0 :: a1 :: a2 :: a3 :: a4 :: a5 :: a6 :: a7 :: (t8.map u8 ++ (t9.map u8)))[2]? = some a2 := (ix_c (o := 1) (ix_c (o := 0) ix_0))
theorem z_field50_3 : fieldB Tryd.prog 50 3 = some 3 := by kernel_rfl
theorem q_ix_c8b32b32_3 {a0 a1 a2 a3 a4 a5 a6 a7 : Value} {t8 t9 : List UInt8} : (a0 :: a1 :: a2 :: a3 :: a4 :: a5 :: a6 :: a7 :: (t8.map u8 ++ (t9.map u8)))[3]? = some a3 := (ix_c (o := 2) (ix_c (o := 1) (ix_c (o := 0) ix_0)))
theorem z_field50_4 : fieldB Tryd.prog 50 4 = some 4 := by kernel_rfl
theorem z_agg9 : aggB Tryd.prog 9 = some false := by kernel_rfl
theorem q_ix_c8b32b32_4 {a0 a1 a2 a3 a4 a5 a6 a7 : Value} {t8 t9 : List UInt8} : (a0 :: a1 :: a2 :: a3 :: a4 :: a5 :: a6 :: a7 :: (t8.map u8 ++ (t9.map u8)))[4]? = some a4 := (ix_c (o := 3) (ix_c (o := 2) (ix_c (o := 1) (ix_c (o := 0) ix_0))))
theorem z_call99 : callB Tryd.prog 99 = true := by kernel_rfl
theorem z_size9 : sizeB Tryd.prog 9 = some 1 := by kernel_rfl
theorem z_zero9 : zeroL Tryd.prog 9 = some ([.string ⟨#[]⟩]) := by kernel_rfl
theorem z_field50_5 : fieldB Tryd.prog 50 5 = some 5 := by kernel_rfl
theorem z_agg4 : aggB Tryd.prog 4 = some false := by kernel_rfl
theorem q_ix_c8b32b32_5 {a0 a1 a2 a3 a4 a5 a6 a7 : Value} {t8 t9 : List UInt8} : (a0 :: a1 :: a2 :: a3 :: a4 :: a5 :: a6 :: a7 :: (t8.map u8 ++ (t9.map u8)))[5]? = some a5 := (ix_c (o := 4) (ix_c (o := 3) (ix_c (o := 2) (ix_c (o := 1) (ix_c (o := 0) ix_0)))))
theorem z_field50_6 : fieldB Tryd.prog 50 6 = some 6 := by kernel_rfl
theorem q_ix_c8b32b32_6 {a0 a1 a2 a3 a4 a5 a6 a7 : Value} {t8 t9 : List UInt8} : (a0 :: a1 :: a2 :: a3 :: a4 :: a5 :: a6 :: a7 :: (t8.map u8 ++ (t9.map u8)))[6]? = some a6 := (ix_c (o := 5) (ix_c (o := 4) (ix_c (o := 3) (ix_c (o := 2) (ix_c (o := 1) (ix_c (o := 0) ix_0))))))
theorem z_field50_7 : fieldB Tryd.prog 50 7 = some 7 := by kernel_rfl
theorem q_ix_c8b32b32_7 {a0 a1 a2 a3 a4 a5 a6 a7 : Value} {t8 t9 : List UInt8} : (a0 :: a1 :: a2 :: a3 :: a4 :: a5 :: a6 :: a7 :: (t8.map u8 ++ (t9.map u8)))[7]? = some a7 := (ix_c (o := 6) (ix_c (o := 5) (ix_c (o := 4) (ix_c (o := 3) (ix_c (o := 2) (ix_c (o := 1) (ix_c (o := 0) ix_0)))))))
theorem z_slice122 : sliceB Tryd.prog 122 = some (9, 1, 16) := by kernel_rfl
theorem z_notint122 : notIntB Tryd.prog 122 = true := by kernel_rfl
theorem z_call95 : callB Tryd.prog 95 = true := by kernel_rfl

set_option maxRecDepth 100000 in
set_option maxHeartbeats 1000000 in
theorem rnum4 (n : Int) (hn : n ≤ 9223372036854775807) (w : World) : Calls Tryd.prog 99 #[.int .i64 n] w (Gives (str (Note.num n)) [] w) := by
  have lz32 : (List.replicate 32 (0 : UInt8)).length = 32 := List.length_replicate
  refine enterL (args := [.int .i64 n]) Tryd.func99 rfl rfl (l := []) (Sep.refl _) ?_
  intro a0 H0
  refine wp_seq ?_
  refine reg ?_
  refine plain (y_assign rfl rfl) rfl rfl rfl H0 ?_
  clear H0; intro a1 H1
  refine fin ?_
  refine then_n ?_
  refine wp_seq ?_
  refine reg ?_
  refine plain (y_move rfl rfl) rfl rfl rfl H1 ?_
  clear H1; intro a2 H2
  refine st_callg rfl z_call96 rfl rfl rfl rfl H2 (numR n hn _) ?_
  clear H2; intro a3 wx3 H3
  refine plain (y_move rfl rfl) rfl rfl rfl H3 ?_
  clear H3; intro a4 H4
  refine plain (y_extract rfl rfl rfl) rfl rfl rfl H4 ?_
  clear H4; intro a5 H5
  refine plain (y_extract rfl rfl rfl) rfl rfl rfl H5 ?_
  clear H5; intro a6 H6
  refine plain (y_assign rfl rfl) rfl rfl rfl H6 ?_
  clear H6; intro a7 H7
  refine plain (y_assign rfl rfl) rfl rfl rfl H7 ?_
  clear H7; intro a8 H8
  refine fin ?_
  refine then_n ?_
  refine wp_seq ?_
  refine reg ?_
  refine plain (y_move rfl rfl) rfl rfl rfl H8 ?_
  clear H8; intro a9 H9
  refine plain (y_assign rfl rfl) rfl rfl rfl H9 ?_
  clear H9; intro a10 H10
  refine fin ?_
  refine then_n ?_
  refine wp_ret ?_
  -- return 1
  refine ret1 rfl H10 rfl ?_
  exact ⟨_, [], rfl, ⟨rfl, rfl⟩, H10.sep.sub (List.nil_sublist _)⟩
set_option maxRecDepth 100000 in
set_option maxHeartbeats 4000000 in
theorem rtbody (t : Txs.Tx) (wf : Txs.Tx.Wf t) (w : World) : Calls Tryd.prog 77 #[.agg (Txs.Tx.cells t).toArray] w (Gives (.tuple #[str (Txs.body t).1, .int .i64 (Txs.body t).2]) [] w) := by
  have whd := wf.hand
  have wtg := wf.tag
  have lz32 : (List.replicate 32 (0 : UInt8)).length = 32 := List.length_replicate
  have lz0 := wf.hand
  have lz1 := wf.tag
  refine enterL (args := [.agg (Txs.Tx.cells t).toArray]) Tryd.func77 rfl rfl (l := []) (Sep.refl _) ?_
  intro a0 H0
  refine wp_seq ?_
  refine reg ?_
  refine st_box rfl rfl (agg_cells _) rfl rfl rfl H0 ?_
  clear H0; intro b1 a1 wx1 H1
  refine plain (y_assign rfl rfl) rfl rfl rfl H1 ?_
  clear H1; intro a2 H2
  refine plain (y_assign rfl rfl) rfl rfl rfl H2 ?_
  clear H2; intro a3 H3
  refine fin ?_
  refine then_n ?_
  refine wp_seq ?_
  refine reg ?_
  refine plain (y_loadAB rfl z_agg50 z_size50 rfl (by repeat (first | exact Mh | apply Mt)) (q_ld_c8b32b32_0_72 (by assumption) (by assumption)) (q_len_c8b32b32 (by assumption) (by assumption))) rfl rfl rfl H3 ?_
  clear H3; intro a4 H4
  refine st_callg rfl z_call98 rfl rfl rfl rfl H4 (rtcheck t wf _) ?_
  clear H4; intro a5 wx5 H5
  refine plain (y_assign rfl rfl) rfl rfl rfl H5 ?_
  clear H5; intro a6 H6
  refine fin ?_
  refine then_n ?_
  refine wp_seq ?_
  refine wp_seq ?_
  refine reg ?_
  refine plain (y_move rfl rfl) rfl rfl rfl H6 ?_
  clear H6; intro a7 H7
  refine plain (y_neq rfl rfl rfl) rfl rfl rfl H7 ?_
  clear H7; intro a8 H8
  refine fin ?_
  refine then_n ?_
  refine cnd H8 rfl (fun hc9 => ?_) (fun hc9 => ?_) -- cond 1
  · skip
    try simp only [decide_eq_true_eq, decide_eq_false_iff_not, Bool.not_eq_true', Bool.not_eq_false', Bool.and_eq_true, Bool.not_eq_true, Bool.not_eq_false] at hc9
    have hbad0 := hc9
    refine wp_seq ?_
    refine reg ?_
    refine plain (y_move rfl rfl) rfl rfl rfl H8 ?_
    clear H8; intro a10 H10
    refine plain (y_assign rfl rfl) rfl rfl rfl H10 ?_
    clear H10; intro a11 H11
    refine plain (y_assign rfl rfl) rfl rfl rfl H11 ?_
    clear H11; intro a12 H12
    refine fin ?_
    refine then_n ?_
    refine wp_ret ?_
    refine then_r ?_
    -- return 1
    refine ret2 rfl H12 rfl rfl ?_
    first | (have hbad := hbad0; exact ⟨_, [], rfl, ⟨by rw [Txs.body_bad hbad], rfl⟩, H12.sep.sub (List.nil_sublist _)⟩) | exact ⟨_, [], rfl, ⟨by rw [Txs.body_yes hgood], rfl⟩, H12.sep.sub (List.nil_sublist _)⟩
  · skip
    try simp only [decide_eq_true_eq, decide_eq_false_iff_not, Bool.not_eq_true', Bool.not_eq_false', Bool.and_eq_true, Bool.not_eq_true, Bool.not_eq_false] at hc9
    have hgood := hc9
    refine wp_skip ?_
    refine then_n ?_
    refine wp_seq ?_
    refine hreg _ (fun _ h => h) (by kernel_rfl) H8 ?_
    clear H8; intro wx13 H13
    refine htake 0 rfl (by kernel_rfl) (y_fieldB rfl z_field50_0 rfl (by first | (simp only [Nat.zero_add, Nat.add_zero, Nat.reduceAdd]; rfl) | rfl)) rfl rfl rfl (fun _ h => (h.sub (by first | exact S0 | exact S1 | repeat (first | exact S1 | exact S0 | apply S2 | apply S3)))) H13 ?_
    clear H13; intro a14 H14
    refine htake 1 rfl (by kernel_rfl) (y_loadB rfl z_agg3 rfl (by repeat (first | exact Mh | apply Mt)) q_ix_c8b32b32_0) rfl rfl rfl (fun _ h => (h.sub (by first | exact S0 | exact S1 | repeat (first | exact S1 | exact S0 | apply S2 | apply S3)))) H14 ?_
    clear H14; intro a15 H15
    refine htake 3 rfl (by kernel_rfl) (y_fieldB rfl z_field50_1 rfl (by first | (simp only [Nat.zero_add, Nat.add_zero, Nat.reduceAdd]; rfl) | rfl)) rfl rfl rfl (fun _ h => (h.sub (by first | exact S0 | exact S1 | repeat (first | exact S1 | exact S0 | apply S2 | apply S3)))) H15 ?_
    clear H15; intro a16 H16
    refine htake 4 rfl (by kernel_rfl) (y_loadB rfl z_agg3 rfl (by repeat (first | exact Mh | apply Mt)) q_ix_c8b32b32_1) rfl rfl rfl (fun _ h => (h.sub (by first | exact S0 | exact S1 | repeat (first | exact S1 | exact S0 | apply S2 | apply S3)))) H16 ?_
    clear H16; intro a17 H17
    refine htake 6 rfl (by kernel_rfl) (y_fieldB rfl z_field50_2 rfl (by first | (simp only [Nat.zero_add, Nat.add_zero, Nat.reduceAdd]; rfl) | rfl)) rfl rfl rfl (fun _ h => (h.sub (by first | exact S0 | exact S1 | repeat (first | exact S1 | exact S0 | apply S2 | apply S3)))) H17 ?_
    clear H17; intro a18 H18
    refine htake 7 rfl (by kernel_rfl) (y_loadB rfl z_agg3 rfl (by repeat (first | exact Mh | apply Mt)) q_ix_c8b32b32_2) rfl rfl rfl (fun _ h => (h.sub (by first | exact S0 | exact S1 | repeat (first | exact S1 | exact S0 | apply S2 | apply S3)))) H18 ?_
    clear H18; intro a19 H19
    refine htake 9 rfl (by kernel_rfl) (y_fieldB rfl z_field50_3 rfl (by first | (simp only [Nat.zero_add, Nat.add_zero, Nat.reduceAdd]; rfl) | rfl)) rfl rfl rfl (fun _ h => (h.sub (by first | exact S0 | exact S1 | repeat (first | exact S1 | exact S0 | apply S2 | apply S3)))) H19 ?_
    clear H19; intro a20 H20
    refine htake 10 rfl (by kernel_rfl) (y_loadB rfl z_agg3 rfl (by repeat (first | exact Mh | apply Mt)) q_ix_c8b32b32_3) rfl rfl rfl (fun _ h => (h.sub (by first | exact S0 | exact S1 | repeat (first | exact S1 | exact S0 | apply S2 | apply S3)))) H20 ?_
    clear H20; intro a21 H21
    refine htake 12 rfl (by kernel_rfl) (y_fieldB rfl z_field50_4 rfl (by first | (simp only [Nat.zero_add, Nat.add_zero, Nat.reduceAdd]; rfl) | rfl)) rfl rfl rfl (fun _ h => (h.sub (by first | exact S0 | exact S1 | repeat (first | exact S1 | exact S0 | apply S2 | apply S3)))) H21 ?_
    clear H21; intro a22 H22
    refine htake 13 rfl (by kernel_rfl) (y_loadB rfl z_agg9 rfl (by repeat (first | exact Mh | apply Mt)) q_ix_c8b32b32_4) rfl rfl rfl (fun _ h => (h.sub (by first | exact S0 | exact S1 | repeat (first | exact S1 | exact S0 | apply S2 | apply S3)))) H22 ?_
    clear H22; intro a23 H23
    refine hgo 2 rfl (by kernel_rfl) ?_
    refine st_callg rfl z_call99 rfl rfl rfl rfl H23 (rnum4 t.src wf.src.2 _) ?_
    clear H23; intro a24 wx24 H24
    refine hfin (H24.sep.sub (by first | exact S0 | exact S1 | repeat (first | exact S1 | exact S0 | apply S2 | apply S3))) ?_
    refine hgo 5 rfl (by kernel_rfl) ?_
    refine st_callg rfl z_call99 rfl rfl rfl rfl H24 (rnum4 t.nonce wf.nonce.2 _) ?_
    clear H24; intro a25 wx25 H25
    refine hfin (H25.sep.sub (by first | exact S0 | exact S1 | repeat (first | exact S1 | exact S0 | apply S2 | apply S3))) ?_
    refine hgo 8 rfl (by kernel_rfl) ?_
    refine st_callg rfl z_call99 rfl rfl rfl rfl H25 (rnum4 t.fee wf.fee.2 _) ?_
    clear H25; intro a26 wx26 H26
    refine hfin (H26.sep.sub (by first | exact S0 | exact S1 | repeat (first | exact S1 | exact S0 | apply S2 | apply S3))) ?_
    refine hgo 11 rfl (by kernel_rfl) ?_
    refine st_callg rfl z_call99 rfl rfl rfl rfl H26 (rnum4 t.dst wf.dst.2 _) ?_
    clear H26; intro a27 wx27 H27
    refine hfin (H27.sep.sub (by first | exact S0 | exact S1 | repeat (first | exact S1 | exact S0 | apply S2 | apply S3))) ?_
    refine hgo 14 rfl (by kernel_rfl) ?_
    refine st_buildSlice1 (xs := [.tmp 13, .tmp 16, .tmp 19, .tmp 22, .tmp 24]) rfl Tryd.underlying122 z_size9 z_zero9 rfl rfl rfl rfl rfl rfl rfl rfl rfl H27 ?_
    clear H27; intro b28 a28 wx28 H28
    refine hfin (H28.sep.sub (by first | exact S0 | exact S1 | repeat (first | exact S1 | exact S0 | apply S2 | apply S3))) ?_
    refine htake 15 rfl (by kernel_rfl) (y_assign rfl rfl) rfl rfl rfl (fun _ h => (h.sub (by first | exact S0 | exact S1 | repeat (first | exact S1 | exact S0 | apply S2 | apply S3)))) H28 ?_
    clear H28; intro a29 H29
    refine hdone (by kernel_rfl) ?_
    refine then_n ?_
    refine wp_seq ?_
    refine wp_seq ?_
    refine reg ?_
    refine plain (y_fieldB rfl z_field50_5 rfl (by first | (simp only [Nat.zero_add, Nat.add_zero, Nat.reduceAdd]; rfl) | rfl)) rfl rfl rfl H29 ?_
    clear H29; intro a30 H30
    refine plain (y_loadB rfl z_agg4 rfl (by repeat (first | exact Mh | apply Mt)) q_ix_c8b32b32_5) rfl rfl rfl H30 ?_
    clear H30; intro a31 H31
    refine fin ?_
    refine then_n ?_
    refine cnd H31 rfl (fun hc32 => ?_) (fun hc32 => ?_) -- cond 2
    · skip
      try simp only [decide_eq_true_eq, decide_eq_false_iff_not, Bool.not_eq_true', Bool.not_eq_false', Bool.and_eq_true, Bool.not_eq_true, Bool.not_eq_false] at hc32
      have hF := Txs.fields_yes hc32
      refine hreg [It.blk b1 50 (Txs.Tx.cells t)] (fun _ h => (h.sub (by first | exact S0 | exact S1 | repeat (first | exact S1 | exact S0 | apply S2 | apply S3)))) (by kernel_rfl) H31 ?_
      clear H31; intro wx33 H33
      refine htake 0 rfl (by kernel_rfl) (y_move rfl rfl) rfl rfl rfl (fun _ h => (h.sub (by first | exact S0 | exact S1 | repeat (first | exact S1 | exact S0 | apply S2 | apply S3)))) H33 ?_
      clear H33; intro a34 H34
      refine htake 1 rfl (by kernel_rfl) (y_fieldB rfl z_field50_6 rfl (by first | (simp only [Nat.zero_add, Nat.add_zero, Nat.reduceAdd]; rfl) | rfl)) rfl rfl rfl (fun _ h => (h.sub (by first | exact S0 | exact S1 | repeat (first | exact S1 | exact S0 | apply S2 | apply S3)))) H34 ?_
      clear H34; intro a35 H35
      refine htake 2 rfl (by kernel_rfl) (y_loadB rfl z_agg3 rfl (by repeat (first | exact Mh | apply Mt)) q_ix_c8b32b32_6) rfl rfl rfl (fun _ h => (h.sub (by first | exact S0 | exact S1 | repeat (first | exact S1 | exact S0 | apply S2 | apply S3)))) H35 ?_
      clear H35; intro a36 H36
      refine htake 4 rfl (by kernel_rfl) (y_fieldB rfl z_field50_7 rfl (by first | (simp only [Nat.zero_add, Nat.add_zero, Nat.reduceAdd]; rfl) | rfl)) rfl rfl rfl (fun _ h => (h.sub (by first | exact S0 | exact S1 | repeat (first | exact S1 | exact S0 | apply S2 | apply S3)))) H36 ?_
      clear H36; intro a37 H37
      refine htake 5 rfl (by kernel_rfl) (y_loadB rfl z_agg3 rfl (by repeat (first | exact Mh | apply Mt)) q_ix_c8b32b32_7) rfl rfl rfl (fun _ h => (h.sub (by first | exact S0 | exact S1 | repeat (first | exact S1 | exact S0 | apply S2 | apply S3)))) H37 ?_
      clear H37; intro a38 H38
      refine hgo 3 rfl (by kernel_rfl) ?_
      refine st_callg rfl z_call99 rfl rfl rfl rfl H38 (rnum4 t.round wf.round.2 _) ?_
      clear H38; intro a39 wx39 H39
      refine hfin (H39.sep.sub (by first | exact S0 | exact S1 | repeat (first | exact S1 | exact S0 | apply S2 | apply S3))) ?_
      refine hgo 6 rfl (by kernel_rfl) ?_
      refine st_callg rfl z_call99 rfl rfl rfl rfl H39 (rnum4 t.turn wf.turn.2 _) ?_
      clear H39; intro a40 wx40 H40
      refine hfin (H40.sep.sub (by first | exact S0 | exact S1 | repeat (first | exact S1 | exact S0 | apply S2 | apply S3))) ?_
      refine hgo 7 rfl (by kernel_rfl) ?_
      refine st_buildSlice1 (xs := [.tmp 31, .tmp 34]) rfl Tryd.underlying122 z_size9 z_zero9 rfl rfl rfl rfl rfl rfl rfl rfl rfl H40 ?_
      clear H40; intro b41 a41 wx41 H41
      refine hfin (H41.sep.sub (by first | exact S0 | exact S1 | repeat (first | exact S1 | exact S0 | apply S2 | apply S3))) ?_
      refine hgo 8 rfl (by kernel_rfl) ?_
      replace H41 := H41.asRow (b := b28) (size := 1) (m := 5) (by repeat (first | exact Uh | apply Ut)) rfl (by unfold maxLen; omega)
      refine st_append rfl z_slice122 z_notint122 rfl rfl (fun _ => (by repeat (first | exact Uh | apply Ut))) (fun w hs => Src.slice ((rd_blkA (by repeat (first | exact Mh | apply Mt))) w hs) rfl (by simp [Value.oneCell'])) (by unfold maxLen at *; first | omega | (simp only [List.length_cons, List.length_nil, List.length_append, List.length_map]; omega)) (by omega) rfl rfl rfl H41 ?_
      clear H41; intro v42 a42 wx42 hnil42 H42
      obtain ⟨Ar42, cr42, hvr42, hRr42, hmr42⟩ := row_shape (v := v42) H42.sep (by repeat (first | exact Mh | apply Mt))
      subst hvr42
      refine hfin (H42.sep.sub (by first | exact S0 | exact S1 | repeat (first | exact S1 | exact S0 | apply S2 | apply S3))) ?_
      refine htake 9 rfl (by kernel_rfl) (y_assign rfl rfl) rfl rfl rfl (fun _ h => (h.sub (by first | exact S0 | exact S1 | repeat (first | exact S1 | exact S0 | apply S2 | apply S3)))) H42 ?_
      clear H42; intro a43 H43
      refine hdone (by kernel_rfl) ?_
      refine then_n ?_
      refine wp_seq ?_
      refine reg ?_
      refine plain (y_move rfl rfl) rfl rfl rfl H43 ?_
      clear H43; intro a44 H44
      refine st_callg rfl z_call95 rfl rfl rfl rfl H44 (lstR (Txs.fields t) _ _ _ (by rw [hF]; rfl) (by rw [hF]; first | exact Rd.ofSep (rd_row (by repeat (first | exact Mh | apply Mt))) H44.sep | exact Rd.ofSep (rd_blkA (by repeat (first | exact Mh | apply Mt))) H44.sep) (by rw [hF]; simp [Txs.F4])) ?_
      clear H44; intro a45 wx45 H45
      refine plain (y_extract rfl rfl rfl) rfl rfl rfl H45 ?_
      clear H45; intro a46 H46
      refine plain (y_extract rfl rfl rfl) rfl rfl rfl H46 ?_
      clear H46; intro a47 H47
      refine plain (y_assign rfl rfl) rfl rfl rfl H47 ?_
      clear H47; intro a48 H48
      refine plain (y_assign rfl rfl) rfl rfl rfl H48 ?_
      clear H48; intro a49 H49
      refine fin ?_
      refine then_n ?_
      refine wp_ret ?_
      -- return 2
      refine ret2 rfl H49 rfl rfl ?_
      first | (have hbad := hbad0; exact ⟨_, [], rfl, ⟨by rw [Txs.body_bad hbad], rfl⟩, H49.sep.sub (List.nil_sublist _)⟩) | exact ⟨_, [], rfl, ⟨by rw [Txs.body_yes hgood], rfl⟩, H49.sep.sub (List.nil_sublist _)⟩
    · skip
      try simp only [decide_eq_true_eq, decide_eq_false_iff_not, Bool.not_eq_true', Bool.not_eq_false', Bool.and_eq_true, Bool.not_eq_true, Bool.not_eq_false] at hc32
      have hF := Txs.fields_no hc32
      refine wp_skip ?_
      refine then_n ?_
      refine wp_seq ?_
      refine reg ?_
      refine plain (y_move rfl rfl) rfl rfl rfl H31 ?_
      clear H31; intro a50 H50
      refine st_callg rfl z_call95 rfl rfl rfl rfl H50 (lstR (Txs.fields t) _ _ _ (by rw [hF]; rfl) (by rw [hF]; first | exact Rd.ofSep (rd_row (by repeat (first | exact Mh | apply Mt))) H50.sep | exact Rd.ofSep (rd_blkA (by repeat (first | exact Mh | apply Mt))) H50.sep) (by rw [hF]; simp [Txs.F4])) ?_
      clear H50; intro a51 wx51 H51
      refine plain (y_extract rfl rfl rfl) rfl rfl rfl H51 ?_
      clear H51; intro a52 H52
      refine plain (y_extract rfl rfl rfl) rfl rfl rfl H52 ?_
      clear H52; intro a53 H53
      refine plain (y_assign rfl rfl) rfl rfl rfl H53 ?_
      clear H53; intro a54 H54
      refine plain (y_assign rfl rfl) rfl rfl rfl H54 ?_
      clear H54; intro a55 H55
      refine fin ?_
      refine then_n ?_
      refine wp_ret ?_
      -- return 3
      refine ret2 rfl H55 rfl rfl ?_
      first | (have hbad := hbad0; exact ⟨_, [], rfl, ⟨by rw [Txs.body_bad hbad], rfl⟩, H55.sep.sub (List.nil_sublist _)⟩) | exact ⟨_, [], rfl, ⟨by rw [Txs.body_yes hgood], rfl⟩, H55.sep.sub (List.nil_sublist _)⟩

end Go.Proofs.YtaeahloenahelaaDoor.A_RBody

set_option linter.unusedVariables false
set_option linter.unusedSimpArgs false
namespace Go.Proofs.YtaeahloenahelaaDoor.A_Tag
open Go.Sx Go.RowKit Go.Proofs.YtaeahloenahelaaDoor.A_Block Go.Proofs.YtaeahloenahelaaDoor.A_Sum Go.Proofs.YtaeahloenahelaaDoor.A_Ref Go.Proofs.YtaeahloenahelaaDoor.A_RSum Go.Proofs.YtaeahloenahelaaDoor.A_Leaf Go.Proofs.YtaeahloenahelaaDoor.A_Num Go.Proofs.YtaeahloenahelaaDoor.A_Key

theorem z_zero28 : zeroL Tryd.prog 28 = some (List.replicate 32 (.int .u8 0)) := by kernel_rfl
theorem z_call97 : callB Tryd.prog 97 = true := by kernel_rfl
theorem z_size28 : sizeB Tryd.prog 28 = some 32 := by kernel_rfl
theorem z_size5 : sizeB Tryd.prog 5 = some 1 := by kernel_rfl
theorem z_agg28 : aggB Tryd.prog 28 = some true := by kernel_rfl
theorem z_call71 : callB Tryd.prog 71 = true := by kernel_rfl
theorem z_zero5 : zeroL Tryd.prog 5 = some ([.int .u8 0]) := by kernel_rfl
theorem z_call72 : callB Tryd.prog 72 = true := by kernel_rfl

set_option maxRecDepth 100000 in
set_option maxHeartbeats 2000000 in
theorem rtag (who dom : Int) (hw : -9223372036854775808 ≤ who ∧ who ≤ 9223372036854775807) (hd : -9223372036854775808 ≤ dom ∧ dom ≤ 9223372036854775807) (body : List UInt8) (hbl : body.length ≤ 140737488351232) (w : World) : Calls Tryd.prog 76 #[.int .i64 who, .int .i64 dom, str body] w (Gives (.tuple #[.agg ((Seal.tag who dom body).1.map u8).toArray, .int .i64 (Seal.tag who dom body).2]) [] w) := by
  refine enterL (args := [.int .i64 who, .int .i64 dom, str body]) Tryd.func76 rfl rfl (l := []) (Sep.refl _) ?_
  intro a0 H0
  refine wp_seq ?_
  refine reg ?_
  refine st_alloc rfl z_zero28 rfl rfl rfl H0 ?_
  clear H0; intro b1 a1 wx1 H1
  refine plain (y_assign rfl rfl) rfl rfl rfl H1 ?_
  clear H1; intro a2 H2
  refine fin ?_
  refine then_n ?_
  refine wp_seq ?_
  refine reg ?_
  refine plain (y_move rfl rfl) rfl rfl rfl H2 ?_
  clear H2; intro a3 H3
  refine st_callg rfl z_call97 rfl rfl rfl rfl H3 (rkey who hw _) ?_
  clear H3; intro a4 wx4 H4
  refine plain (y_move rfl rfl) rfl rfl rfl H4 ?_
  clear H4; intro a5 H5
  refine plain (y_extract rfl rfl rfl) rfl rfl rfl H5 ?_
  clear H5; intro a6 H6
  refine plain (y_extract rfl rfl rfl) rfl rfl rfl H6 ?_
  clear H6; intro a7 H7
  refine st_alloc rfl z_zero28 rfl rfl rfl H7 ?_
  clear H7; intro b8 a8 wx8 H8
  refine st_store (vs := _) rfl z_size28 rfl rfl (show _ = List.map u8 _ from rfl) (one_u8 _) (by rw [List.length_map, Seal.key_len]) (by repeat (first | exact Uh | apply Ut)) (by decide) rfl rfl H8 ?_
  clear H8; intro wx9 H9
  refine plain (y_assign rfl rfl) rfl rfl rfl H9 ?_
  clear H9; intro a10 H10
  refine fin ?_
  refine then_n ?_
  refine wp_seq ?_
  refine wp_seq ?_
  refine reg ?_
  rw [spl_all (by rw [List.length_map, Seal.key_len]; rfl)] at H10
  refine plain (y_move rfl rfl) rfl rfl rfl H10 ?_
  clear H10; intro a11 H11
  refine plain (y_neq rfl rfl rfl) rfl rfl rfl H11 ?_
  clear H11; intro a12 H12
  refine fin ?_
  refine then_n ?_
  refine cnd_d H12 rfl (fun hc13 => ?_) (fun hc13 => ?_) -- cond 1
  · skip
    refine wp_seq ?_
    refine reg ?_
    refine plain (y_buildA rfl z_zero28 Tryd.underlying28 z_size5 rfl rfl) rfl rfl rfl H12 ?_
    clear H12; intro a14 H14
    refine plain (y_move rfl rfl) rfl rfl rfl H14 ?_
    clear H14; intro a15 H15
    refine st_store (vs := _) rfl z_size28 rfl rfl rfl rfl rfl (by repeat (first | exact Uh | apply Ut)) (by decide) rfl rfl H15 ?_
    clear H15; intro wx16 H16
    refine plain (y_assign rfl rfl) rfl rfl rfl H16 ?_
    clear H16; intro a17 H17
    refine fin ?_
    refine then_n ?_
    refine wp_ret ?_
    refine then_r ?_
    -- return 1
    refine retct rfl H17 rfl z_agg28 z_size28 (by repeat (first | exact Mh | apply Mt)) rfl rfl ?_
    refine ⟨_, [], rfl, ⟨?_, rfl⟩, H17.sep.sub (List.nil_sublist _)⟩
    rw [Seal.tag_err (by omega)]
    rfl
  · skip
    refine wp_skip ?_
    refine then_n ?_
    refine wp_seq ?_
    refine wp_seq ?_
    refine reg ?_
    refine plain (y_move rfl rfl) rfl rfl rfl H12 ?_
    clear H12; intro a18 H18
    refine plain (y_lss rfl rfl rfl) rfl rfl rfl H18 ?_
    clear H18; intro a19 H19
    refine plain (y_move rfl rfl) rfl rfl rfl H19 ?_
    clear H19; intro a20 H20
    refine part_d (d := 21) H20 rfl (fun hg21 => ?_) (fun hg21 => ?_)
    · first
      | fail
      | skip
        clear H20; intro H22
        refine skip rfl rfl rfl H22 ?_
        clear H22; intro a23 H23
        refine skip rfl rfl rfl H23 ?_
        clear H23; intro a24 H24
        refine plain (y_pick_t rfl rfl rfl) rfl rfl rfl H24 ?_
        clear H24; intro a25 H25
        refine fin ?_
        refine then_n ?_
        refine cnd_t H25 rfl ?_
        refine wp_seq ?_
        refine reg ?_
        refine plain (y_buildA rfl z_zero28 Tryd.underlying28 z_size5 rfl rfl) rfl rfl rfl H25 ?_
        clear H25; intro a27 H27
        refine st_store (vs := _) rfl z_size28 rfl rfl rfl rfl rfl (by repeat (first | exact Uh | apply Ut)) (by decide) rfl rfl H27 ?_
        clear H27; intro wx28 H28
        refine plain (y_assign rfl rfl) rfl rfl rfl H28 ?_
        clear H28; intro a29 H29
        refine fin ?_
        refine then_n ?_
        refine wp_ret ?_
        refine then_r ?_
        -- return 2
        refine retct rfl H29 rfl z_agg28 z_size28 (by repeat (first | exact Mh | apply Mt)) rfl rfl ?_
        refine ⟨_, [], rfl, ⟨?_, rfl⟩, H29.sep.sub (List.nil_sublist _)⟩
        rw [Seal.tag_dom (by omega) (by omega)]
        rfl
    · first
      | fail
      | skip
        clear H20; intro H30
        refine plain (y_move rfl rfl) rfl rfl rfl H30 ?_
        clear H30; intro a31 H31
        refine plain (y_gtr rfl rfl rfl) rfl rfl rfl H31 ?_
        clear H31; intro a32 H32
        refine plain (y_pick_f rfl rfl rfl) rfl rfl rfl H32 ?_
        clear H32; intro a33 H33
        refine fin ?_
        refine then_n ?_
        refine cnd_d H33 rfl (fun hc34 => ?_) (fun hc34 => ?_) -- cond 3
        · skip
          refine wp_seq ?_
          refine reg ?_
          refine plain (y_buildA rfl z_zero28 Tryd.underlying28 z_size5 rfl rfl) rfl rfl rfl H33 ?_
          clear H33; intro a35 H35
          refine st_store (vs := _) rfl z_size28 rfl rfl rfl rfl rfl (by repeat (first | exact Uh | apply Ut)) (by decide) rfl rfl H35 ?_
          clear H35; intro wx36 H36
          refine plain (y_assign rfl rfl) rfl rfl rfl H36 ?_
          clear H36; intro a37 H37
          refine fin ?_
          refine then_n ?_
          refine wp_ret ?_
          refine then_r ?_
          -- return 3
          refine retct rfl H37 rfl z_agg28 z_size28 (by repeat (first | exact Mh | apply Mt)) rfl rfl ?_
          refine ⟨_, [], rfl, ⟨?_, rfl⟩, H37.sep.sub (List.nil_sublist _)⟩
          rw [Seal.tag_dom (by omega) (by omega)]
          rfl
        · skip
          refine wp_skip ?_
          refine then_n ?_
          refine wp_seq ?_
          refine hreg [It.blk b8 28 ((Seal.key who).1.map u8)] (fun _ h => (h.sub (by first | exact S0 | exact S1 | repeat (first | exact S1 | exact S0 | apply S2 | apply S3)))) (by kernel_rfl) H33 ?_
          clear H33; intro wx38 H38
          refine htake 0 rfl (by kernel_rfl) (y_loadAB rfl z_agg28 z_size28 rfl (by repeat (first | exact Mh | apply Mt)) (take_all (cs := (Seal.key who).1.map u8) (by rw [List.length_map, Seal.key_len])) (by rw [List.length_map, Seal.key_len])) rfl rfl rfl (fun _ h => (h.sub (by first | exact S0 | exact S1 | repeat (first | exact S1 | exact S0 | apply S2 | apply S3)))) H38 ?_
          clear H38; intro a39 H39
          refine htake 2 rfl (by kernel_rfl) (y_move rfl rfl) rfl rfl rfl (fun _ h => (h.sub (by first | exact S0 | exact S1 | repeat (first | exact S1 | exact S0 | apply S2 | apply S3)))) H39 ?_
          clear H39; intro a40 H40
          refine htake 3 rfl (by kernel_rfl) (y_conv rfl Tryd.underlying3 Tryd.underlying5 rfl (show IntKind.u8.wrap dom = ((UInt8.ofNat dom.toNat).toNat : Int) by rw [wu8_mod, UInt8.toNat_ofNat']; omega)) rfl rfl rfl (fun _ h => (h.sub (by first | exact S0 | exact S1 | repeat (first | exact S1 | exact S0 | apply S2 | apply S3)))) H40 ?_
          clear H40; intro a41 H41
          refine htake 7 rfl (by kernel_rfl) (y_move rfl rfl) rfl rfl rfl (fun _ h => (h.sub (by first | exact S0 | exact S1 | repeat (first | exact S1 | exact S0 | apply S2 | apply S3)))) H41 ?_
          clear H41; intro a42 H42
          refine hgo2 1 4 rfl rfl (by kernel_rfl) ?_ ?_
          · skip
            refine st_callg rfl z_call71 rfl rfl rfl rfl H42 (rbytes _ (Seal.key_len who) _) ?_
            clear H42; intro a43 wx43 H43
            refine hfin (H43.sep.sub (by first | exact S0 | exact S1 | repeat (first | exact S1 | exact S0 | apply S2 | apply S3))) ?_
            refine hgo 4 rfl (by kernel_rfl) ?_
            refine st_buildSlice1 (xs := [.tmp 29]) rfl Tryd.underlying118 z_size5 z_zero5 rfl rfl rfl rfl rfl rfl rfl rfl rfl H43 ?_
            clear H43; intro b44 a44 wx44 H44
            refine hfin (H44.sep.sub (by first | exact S0 | exact S1 | repeat (first | exact S1 | exact S0 | apply S2 | apply S3))) ?_
            refine hgo 5 rfl (by kernel_rfl) ?_
            refine plain (y_bstr (p := [UInt8.ofNat dom.toNat]) rfl Tryd.underlying118 Tryd.underlying5 Tryd.underlying9 rfl (by simp) (rd_blkA (by repeat (first | exact Mh | apply Mt)))) rfl rfl rfl H44 ?_
            clear H44; intro a45 H45
            refine hfin (H45.sep.sub (by first | exact S0 | exact S1 | repeat (first | exact S1 | exact S0 | apply S2 | apply S3))) ?_
            refine htake 6 rfl (by kernel_rfl) (y_sadd rfl rfl rfl (by simp only [List.length_cons, List.length_nil, Seal.key_len]; omega)) rfl rfl rfl (fun _ h => (h.sub (by first | exact S0 | exact S1 | repeat (first | exact S1 | exact S0 | apply S2 | apply S3)))) H45 ?_
            clear H45; intro a46 H46
            refine htake 8 rfl (by kernel_rfl) (y_sadd rfl rfl rfl (by simp only [List.length_append, List.length_cons, List.length_nil, Seal.key_len]; omega)) rfl rfl rfl (fun _ h => (h.sub (by first | exact S0 | exact S1 | repeat (first | exact S1 | exact S0 | apply S2 | apply S3)))) H46 ?_
            clear H46; intro a47 H47
            refine hgo 9 rfl (by kernel_rfl) ?_
            refine st_callg rfl z_call72 rfl rfl rfl rfl H47 (rsum _ (by simp only [List.length_append, List.length_cons, List.length_nil, Seal.key_len]; omega) _) ?_
            clear H47; intro a48 wx48 H48
            refine hfin (H48.sep.sub (by first | exact S0 | exact S1 | repeat (first | exact S1 | exact S0 | apply S2 | apply S3))) ?_
            refine hgo 10 rfl (by kernel_rfl) ?_
            refine st_store (vs := _) rfl z_size28 rfl rfl (show _ = List.map u8 _ from rfl) (one_u8 _) (by rw [List.length_map, Sha.sum_length]) (by repeat (first | exact Uh | apply Ut)) (by decide) rfl rfl H48 ?_
            clear H48; intro wx49 H49
            refine hfin (H49.sep.sub (by first | exact S0 | exact S1 | repeat (first | exact S1 | exact S0 | apply S2 | apply S3))) ?_
            refine htake 11 rfl (by kernel_rfl) (y_assign rfl rfl) rfl rfl rfl (fun _ h => (h.sub (by first | exact S0 | exact S1 | repeat (first | exact S1 | exact S0 | apply S2 | apply S3)))) H49 ?_
            clear H49; intro a50 H50
            refine hdone (by kernel_rfl) ?_
            refine then_n ?_
            refine wp_ret ?_
            -- return 4
            refine retct rfl H50 rfl z_agg28 z_size28 (by repeat (first | exact Mh | apply Mt)) (by rw [spl_all (by rw [List.length_map, Sha.sum_length]; rfl), List.length_map, Sha.sum_length]) rfl ?_
            refine ⟨_, [], rfl, ⟨?_, rfl⟩, H50.sep.sub (List.nil_sublist _)⟩
            rw [spl_all (by rw [List.length_map, Sha.sum_length]; rfl), Seal.tag_ok (by omega) (by omega)]
            simp only [List.append_assoc]
          · skip
            refine st_buildSlice1 (xs := [.tmp 29]) rfl Tryd.underlying118 z_size5 z_zero5 rfl rfl rfl rfl rfl rfl rfl rfl rfl H42 ?_
            clear H42; intro b51 a51 wx51 H51
            refine hfin (H51.sep.sub (by first | exact S0 | exact S1 | repeat (first | exact S1 | exact S0 | apply S2 | apply S3))) ?_
            refine hgo2 1 5 rfl rfl (by kernel_rfl) ?_ ?_
            · skip
              refine st_callg rfl z_call71 rfl rfl rfl rfl H51 (rbytes _ (Seal.key_len who) _) ?_
              clear H51; intro a52 wx52 H52
              refine hfin (H52.sep.sub (by first | exact S0 | exact S1 | repeat (first | exact S1 | exact S0 | apply S2 | apply S3))) ?_
              refine hgo 5 rfl (by kernel_rfl) ?_
              refine plain (y_bstr (p := [UInt8.ofNat dom.toNat]) rfl Tryd.underlying118 Tryd.underlying5 Tryd.underlying9 rfl (by simp) (rd_blkA (by repeat (first | exact Mh | apply Mt)))) rfl rfl rfl H52 ?_
              clear H52; intro a53 H53
              refine hfin (H53.sep.sub (by first | exact S0 | exact S1 | repeat (first | exact S1 | exact S0 | apply S2 | apply S3))) ?_
              refine htake 6 rfl (by kernel_rfl) (y_sadd rfl rfl rfl (by simp only [List.length_cons, List.length_nil, Seal.key_len]; omega)) rfl rfl rfl (fun _ h => (h.sub (by first | exact S0 | exact S1 | repeat (first | exact S1 | exact S0 | apply S2 | apply S3)))) H53 ?_
              clear H53; intro a54 H54
              refine htake 8 rfl (by kernel_rfl) (y_sadd rfl rfl rfl (by simp only [List.length_append, List.length_cons, List.length_nil, Seal.key_len]; omega)) rfl rfl rfl (fun _ h => (h.sub (by first | exact S0 | exact S1 | repeat (first | exact S1 | exact S0 | apply S2 | apply S3)))) H54 ?_
              clear H54; intro a55 H55
              refine hgo 9 rfl (by kernel_rfl) ?_
              refine st_callg rfl z_call72 rfl rfl rfl rfl H55 (rsum _ (by simp only [List.length_append, List.length_cons, List.length_nil, Seal.key_len]; omega) _) ?_
              clear H55; intro a56 wx56 H56
              refine hfin (H56.sep.sub (by first | exact S0 | exact S1 | repeat (first | exact S1 | exact S0 | apply S2 | apply S3))) ?_
              refine hgo 10 rfl (by kernel_rfl) ?_
              refine st_store (vs := _) rfl z_size28 rfl rfl (show _ = List.map u8 _ from rfl) (one_u8 _) (by rw [List.length_map, Sha.sum_length]) (by repeat (first | exact Uh | apply Ut)) (by decide) rfl rfl H56 ?_
              clear H56; intro wx57 H57
              refine hfin (H57.sep.sub (by first | exact S0 | exact S1 | repeat (first | exact S1 | exact S0 | apply S2 | apply S3))) ?_
              refine htake 11 rfl (by kernel_rfl) (y_assign rfl rfl) rfl rfl rfl (fun _ h => (h.sub (by first | exact S0 | exact S1 | repeat (first | exact S1 | exact S0 | apply S2 | apply S3)))) H57 ?_
              clear H57; intro a58 H58
              refine hdone (by kernel_rfl) ?_
              refine then_n ?_
              refine wp_ret ?_
              -- return 5
              refine retct rfl H58 rfl z_agg28 z_size28 (by repeat (first | exact Mh | apply Mt)) (by rw [spl_all (by rw [List.length_map, Sha.sum_length]; rfl), List.length_map, Sha.sum_length]) rfl ?_
              refine ⟨_, [], rfl, ⟨?_, rfl⟩, H58.sep.sub (List.nil_sublist _)⟩
              rw [spl_all (by rw [List.length_map, Sha.sum_length]; rfl), Seal.tag_ok (by omega) (by omega)]
              simp only [List.append_assoc]
            · skip
              refine plain (y_bstr (p := [UInt8.ofNat dom.toNat]) rfl Tryd.underlying118 Tryd.underlying5 Tryd.underlying9 rfl (by simp) (rd_blkA (by repeat (first | exact Mh | apply Mt)))) rfl rfl rfl H51 ?_
              clear H51; intro a59 H59
              refine hfin (H59.sep.sub (by first | exact S0 | exact S1 | repeat (first | exact S1 | exact S0 | apply S2 | apply S3))) ?_
              refine hgo 1 rfl (by kernel_rfl) ?_
              refine st_callg rfl z_call71 rfl rfl rfl rfl H59 (rbytes _ (Seal.key_len who) _) ?_
              clear H59; intro a60 wx60 H60
              refine hfin (H60.sep.sub (by first | exact S0 | exact S1 | repeat (first | exact S1 | exact S0 | apply S2 | apply S3))) ?_
              refine htake 6 rfl (by kernel_rfl) (y_sadd rfl rfl rfl (by simp only [List.length_cons, List.length_nil, Seal.key_len]; omega)) rfl rfl rfl (fun _ h => (h.sub (by first | exact S0 | exact S1 | repeat (first | exact S1 | exact S0 | apply S2 | apply S3)))) H60 ?_
              clear H60; intro a61 H61
              refine htake 8 rfl (by kernel_rfl) (y_sadd rfl rfl rfl (by simp only [List.length_append, List.length_cons, List.length_nil, Seal.key_len]; omega)) rfl rfl rfl (fun _ h => (h.sub (by first | exact S0 | exact S1 | repeat (first | exact S1 | exact S0 | apply S2 | apply S3)))) H61 ?_
              clear H61; intro a62 H62
              refine hgo 9 rfl (by kernel_rfl) ?_
              refine st_callg rfl z_call72 rfl rfl rfl rfl H62 (rsum _ (by simp only [List.length_append, List.length_cons, List.length_nil, Seal.key_len]; omega) _) ?_
              clear H62; intro a63 wx63 H63
              refine hfin (H63.sep.sub (by first | exact S0 | exact S1 | repeat (first | exact S1 | exact S0 | apply S2 | apply S3))) ?_
              refine hgo 10 rfl (by kernel_rfl) ?_
              refine st_store (vs := _) rfl z_size28 rfl rfl (show _ = List.map u8 _ from rfl) (one_u8 _) (by rw [List.length_map, Sha.sum_length]) (by repeat (first | exact Uh | apply Ut)) (by decide) rfl rfl H63 ?_
              clear H63; intro wx64 H64
              refine hfin (H64.sep.sub (by first | exact S0 | exact S1 | repeat (first | exact S1 | exact S0 | apply S2 | apply S3))) ?_
              refine htake 11 rfl (by kernel_rfl) (y_assign rfl rfl) rfl rfl rfl (fun _ h => (h.sub (by first | exact S0 | exact S1 | repeat (first | exact S1 | exact S0 | apply S2 | apply S3)))) H64 ?_
              clear H64; intro a65 H65
              refine hdone (by kernel_rfl) ?_
              refine then_n ?_
              refine wp_ret ?_
              -- return 6
              refine retct rfl H65 rfl z_agg28 z_size28 (by repeat (first | exact Mh | apply Mt)) (by rw [spl_all (by rw [List.length_map, Sha.sum_length]; rfl), List.length_map, Sha.sum_length]) rfl ?_
              refine ⟨_, [], rfl, ⟨?_, rfl⟩, H65.sep.sub (List.nil_sublist _)⟩
              rw [spl_all (by rw [List.length_map, Sha.sum_length]; rfl), Seal.tag_ok (by omega) (by omega)]
              simp only [List.append_assoc]

end Go.Proofs.YtaeahloenahelaaDoor.A_Tag

set_option linter.unusedVariables false
set_option linter.unusedSimpArgs false
namespace Go.Proofs.YtaeahloenahelaaDoor.A_RHand
open Go.Sx Go.RowKit Go.Proofs.YtaeahloenahelaaDoor.A_Block Go.Proofs.YtaeahloenahelaaDoor.A_Sum Go.Proofs.YtaeahloenahelaaDoor.A_Ref Go.Proofs.YtaeahloenahelaaDoor.A_RSum Go.Proofs.YtaeahloenahelaaDoor.A_Leaf Go.Proofs.YtaeahloenahelaaDoor.A_Num Go.Proofs.YtaeahloenahelaaDoor.A_Key Go.Proofs.YtaeahloenahelaaDoor.A_Ref Go.Proofs.YtaeahloenahelaaDoor.A_RSum Go.Proofs.YtaeahloenahelaaDoor.A_Tx Go.Proofs.YtaeahloenahelaaDoor.A_RBody Go.Proofs.YtaeahloenahelaaDoor.A_Tag

theorem z_zeroN50 : zeroL Tryd.prog 50 = some ((.int .i64 0 :: (.int .i64 0 :: (.int .i64 0 :: (.int .i64 0 :: (.string ⟨#[]⟩ :: (.bool false :: (.int .i64 0 :: (.int .i64 0 :: ((List.replicate 32 (0 : UInt8)).map u8 ++ (List.replicate 32 (0 : UInt8)).map u8)))))))))) := by kernel_rfl
theorem z_agg50 : aggB Tryd.prog 50 = some true := by kernel_rfl
theorem z_size50 : sizeB Tryd.prog 50 = some 72 := by kernel_rfl
theorem q_ld_c8b32b32_0_72 {a0 a1 a2 a3 a4 a5 a6 a7 : Value} {t8 t9 : List UInt8} (h8 : t8.length = 32) (h9 : t9.length = 32) : ((a0 :: a1 :: a2 :: a3 :: a4 :: a5 :: a6 :: a7 :: (t8.map u8 ++ (t9.map u8))).drop 0).take 72 = a0 :: a1 :: a2 :: a3 :: a4 :: a5 :: a6 :: a7 :: (t8.map u8 ++ (t9.map u8)) := (ld_a (len_c (n := 71) (len_c (n := 70) (len_c (n := 69) (len_c (n := 68) (len_c (n := 67) (len_c (n := 66) (len_c (n := 65) (len_c (n := 64) (len_b (k := 32) (n := 32) h8 (len_e (k := 32) h9)))))))))))
theorem q_len_c8b32b32 {a0 a1 a2 a3 a4 a5 a6 a7 : Value} {t8 t9 : List UInt8} (h8 : t8.length = 32) (h9 : t9.length = 32) : (a0 :: a1 :: a2 :: a3 :: a4 :: a5 :: a6 :: a7 :: (t8.map u8 ++ (t9.map u8))).length = 72 := (len_c (n := 71) (len_c (n := 70) (len_c (n := 69) (len_c (n := 68) (len_c (n := 67) (len_c (n := 66) (len_c (n := 65) (len_c (n := 64) (len_b (k := 32) (n := 32) h8 (len_e (k := 32) h9))))))))))
theorem z_call77 : callB Tryd.prog 77 = true := by kernel_rfl
theorem z_places50 : placesB Tryd.prog 50 = some [(0, 1), (1, 1), (2, 1), (3, 1), (4, 1), (5, 1), (6, 1), (7, 1), (8, 32), (40, 32)] := by kernel_rfl
theorem q_one_c8b32b32 {a0 a1 a2 a3 a4 a5 a6 a7 : Value} {t8 t9 : List UInt8} (o0 : a0.oneCell' = true) (o1 : a1.oneCell' = true) (o2 : a2.oneCell' = true) (o3 : a3.oneCell' = true) (o4 : a4.oneCell' = true) (o5 : a5.oneCell' = true) (o6 : a6.oneCell' = true) (o7 : a7.oneCell' = true) : (a0 :: a1 :: a2 :: a3 :: a4 :: a5 :: a6 :: a7 :: (t8.map u8 ++ (t9.map u8))).all (·.oneCell') = true := (one_c o0 (one_c o1 (one_c o2 (one_c o3 (one_c o4 (one_c o5 (one_c o6 (one_c o7 (one_b (one_u8 _))))))))))
theorem q_spl_c8b32b32_0_c8b32b32 {a0 a1 a2 a3 a4 a5 a6 a7 : Value} {t8 t9 : List UInt8} {b0 b1 b2 b3 b4 b5 b6 b7 : Value} {s8 s9 : List UInt8} (h8 : t8.length = 32) (h9 : t9.length = 32) (g8 : s8.length = 32) (g9 : s9.length = 32) : spl (a0 :: a1 :: a2 :: a3 :: a4 :: a5 :: a6 :: a7 :: (t8.map u8 ++ (t9.map u8))) 0 (b0 :: b1 :: b2 :: b3 :: b4 :: b5 :: b6 :: b7 :: (s8.map u8 ++ (s9.map u8))) = b0 :: b1 :: b2 :: b3 :: b4 :: b5 :: b6 :: b7 :: (s8.map u8 ++ (s9.map u8)) := (spl_a (z := 72) (len_c (n := 71) (len_c (n := 70) (len_c (n := 69) (len_c (n := 68) (len_c (n := 67) (len_c (n := 66) (len_c (n := 65) (len_c (n := 64) (len_b (k := 32) (n := 32) h8 (len_e (k := 32) h9)))))))))) (len_c (n := 71) (len_c (n := 70) (len_c (n := 69) (len_c (n := 68) (len_c (n := 67) (len_c (n := 66) (len_c (n := 65) (len_c (n := 64) (len_b (k := 32) (n := 32) g8 (len_e (k := 32) g9)))))))))))
theorem z_call78 : callB Tryd.prog 78 = true := by kernel_rfl
theorem z_field50_5 : fieldB Tryd.prog 50 5 = some 5 := by kernel_rfl
theorem z_agg4 : aggB Tryd.prog 4 = some false := by kernel_rfl
theorem q_ix_c8b32b32_5 {a0 a1 a2 a3 a4 a5 a6 a7 : Value} {t8 t9 : List UInt8} : (a0 :: a1 :: a2 :: a3 :: a4 :: a5 :: a6 :: a7 :: (t8.map u8 ++ (t9.map u8)))[5]? = some a5 := (ix_c (o := 4) (ix_c (o := 3) (ix_c (o := 2) (ix_c (o := 1) (ix_c (o := 0) ix_0)))))
theorem z_call76 : callB Tryd.prog 76 = true := by kernel_rfl
theorem z_zeroN28 : zeroL Tryd.prog 28 = some ((List.replicate 32 (0 : UInt8)).map u8) := by kernel_rfl
theorem z_size28 : sizeB Tryd.prog 28 = some 32 := by kernel_rfl
theorem q_one_b32 {t0 : List UInt8} : (t0.map u8).all (·.oneCell') = true := (one_u8 _)
theorem q_len_b32 {t0 : List UInt8} (h0 : t0.length = 32) : (t0.map u8).length = 32 := (len_e (k := 32) h0)
theorem q_spl_b32_0_b32 {t0 : List UInt8} {s0 : List UInt8} (h0 : t0.length = 32) (g0 : s0.length = 32) : spl (t0.map u8) 0 (s0.map u8) = s0.map u8 := (spl_a (z := 32) (len_e (k := 32) h0) (len_e (k := 32) g0))
theorem z_agg28 : aggB Tryd.prog 28 = some true := by kernel_rfl
theorem q_ld_b32_0_32 {t0 : List UInt8} (h0 : t0.length = 32) : ((t0.map u8).drop 0).take 32 = t0.map u8 := (ld_a (len_e (k := 32) h0))
theorem z_field50_8 : fieldB Tryd.prog 50 8 = some 8 := by kernel_rfl
theorem q_spl_c8b32b32_8_b32 {a0 a1 a2 a3 a4 a5 a6 a7 : Value} {t8 t9 : List UInt8} {s0 : List UInt8} (h8 : t8.length = 32) (g0 : s0.length = 32) : spl (a0 :: a1 :: a2 :: a3 :: a4 :: a5 :: a6 :: a7 :: (t8.map u8 ++ (t9.map u8))) 8 (s0.map u8) = a0 :: a1 :: a2 :: a3 :: a4 :: a5 :: a6 :: a7 :: (s0.map u8 ++ (t9.map u8)) := (spl_c (o := 7) (spl_c (o := 6) (spl_c (o := 5) (spl_c (o := 4) (spl_c (o := 3) (spl_c (o := 2) (spl_c (o := 1) (spl_c (o := 0) (spl_h (z := 32) (len_e h8) (len_e g0))))))))))

set_option maxRecDepth 100000 in
set_option maxHeartbeats 4000000 in
theorem rhand (t : Txs.Tx) (wf : Txs.Tx.Wf t) (who : Int) (hw : Note.I64 who) (w : World) : Calls Tryd.prog 52 #[.agg (Txs.Tx.cells t).toArray, .int .i64 who] w (Gives (.tuple #[.agg (Txs.Tx.cells (Txs.hand t who).1).toArray, .int .i64 (Txs.hand t who).2]) [] w) := by
  have whd := wf.hand
  have wtg := wf.tag
  have hbl := Txs.body_len t
  have lz32 : (List.replicate 32 (0 : UInt8)).length = 32 := List.length_replicate
  have lz0 := wf.hand
  have lz1 := wf.tag
  refine enterL (args := [.agg (Txs.Tx.cells t).toArray, .int .i64 who]) Tryd.func52 rfl rfl (l := []) (Sep.refl _) ?_
  intro a0 H0
  refine wp_seq ?_
  refine reg ?_
  refine st_box rfl rfl (agg_cells _) rfl rfl rfl H0 ?_
  clear H0; intro b1 a1 wx1 H1
  refine st_alloc rfl z_zeroN50 rfl rfl rfl H1 ?_
  clear H1; intro b2 a2 wx2 H2
  refine plain (y_assign rfl rfl) rfl rfl rfl H2 ?_
  clear H2; intro a3 H3
  refine fin ?_
  refine then_n ?_
  refine wp_seq ?_
  refine reg ?_
  refine plain (y_loadAB rfl z_agg50 z_size50 rfl (by repeat (first | exact Mh | apply Mt)) (q_ld_c8b32b32_0_72 (by first | assumption | exact Seal.tag_len _ _ _) (by first | assumption | exact Seal.tag_len _ _ _)) (q_len_c8b32b32 (by first | assumption | exact Seal.tag_len _ _ _) (by first | assumption | exact Seal.tag_len _ _ _))) rfl rfl rfl H3 ?_
  clear H3; intro a4 H4
  refine st_callg rfl z_call77 rfl rfl rfl rfl H4 (rtbody t wf _) ?_
  clear H4; intro a5 wx5 H5
  refine plain (y_move rfl rfl) rfl rfl rfl H5 ?_
  clear H5; intro a6 H6
  refine plain (y_extract rfl rfl rfl) rfl rfl rfl H6 ?_
  clear H6; intro a7 H7
  refine plain (y_extract rfl rfl rfl) rfl rfl rfl H7 ?_
  clear H7; intro a8 H8
  refine plain (y_assign rfl rfl) rfl rfl rfl H8 ?_
  clear H8; intro a9 H9
  refine plain (y_assign rfl rfl) rfl rfl rfl H9 ?_
  clear H9; intro a10 H10
  refine fin ?_
  refine then_n ?_
  refine wp_seq ?_
  refine wp_seq ?_
  refine reg ?_
  refine plain (y_move rfl rfl) rfl rfl rfl H10 ?_
  clear H10; intro a11 H11
  refine plain (y_neq rfl rfl rfl) rfl rfl rfl H11 ?_
  clear H11; intro a12 H12
  refine fin ?_
  refine then_n ?_
  refine cnd H12 rfl (fun hc13 => ?_) (fun hc13 => ?_) -- cond 1
  · skip
    try simp only [decide_eq_true_eq, decide_eq_false_iff_not, Bool.not_eq_true', Bool.not_eq_false', Bool.and_eq_true, Bool.not_eq_true, Bool.not_eq_false] at hc13
    have hb1 := hc13
    refine wp_seq ?_
    refine reg ?_
    refine plain (y_build rfl z_zeroN50 z_places50 rfl lay_n) rfl rfl rfl H12 ?_
    clear H12; intro a14 H14
    refine plain (y_move rfl rfl) rfl rfl rfl H14 ?_
    clear H14; intro a15 H15
    refine st_storeN rfl z_size50 rfl rfl (agg_cells _) (by repeat (first | exact Uh | apply Ut)) (q_one_c8b32b32 rfl rfl rfl rfl rfl rfl rfl rfl) (q_len_c8b32b32 (by first | assumption | exact Seal.tag_len _ _ _) (by first | assumption | exact Seal.tag_len _ _ _)) (q_len_c8b32b32 (by first | assumption | exact Seal.tag_len _ _ _) (by first | assumption | exact Seal.tag_len _ _ _)) (q_spl_c8b32b32_0_c8b32b32 (by first | assumption | exact Seal.tag_len _ _ _) (by first | assumption | exact Seal.tag_len _ _ _) (by first | assumption | exact Seal.tag_len _ _ _) (by first | assumption | exact Seal.tag_len _ _ _)) (by decide) rfl rfl H15 ?_
    clear H15; intro wx16 H16
    refine plain (y_assign rfl rfl) rfl rfl rfl H16 ?_
    clear H16; intro a17 H17
    refine fin ?_
    refine then_n ?_
    refine wp_ret ?_
    refine then_r ?_
    -- return 1
    refine retct rfl H17 rfl z_agg50 z_size50 (by repeat (first | exact Mh | apply Mt)) (q_len_c8b32b32 (by first | assumption | exact Seal.tag_len _ _ _) (by first | assumption | exact Seal.tag_len _ _ _)) rfl ?_
    first | (have hz := Txs.hand_err (who := who) hb1; exact ⟨_, [], rfl, ⟨by rw [hz]; rfl, rfl⟩, H17.sep.sub (List.nil_sublist _)⟩) | (have hz := Txs.hand_who hb2 hk1; exact ⟨_, [], rfl, ⟨by rw [hz]; rfl, rfl⟩, H17.sep.sub (List.nil_sublist _)⟩) | (have hz := Txs.hand_lane hb2 hk2 hl1; exact ⟨_, [], rfl, ⟨by rw [hz]; rfl, rfl⟩, H17.sep.sub (List.nil_sublist _)⟩) | (have hz := Txs.hand_ok hb2 hk2 hl2; exact ⟨_, [], rfl, ⟨by rw [hz]; rfl, rfl⟩, H17.sep.sub (List.nil_sublist _)⟩)
  · skip
    try simp only [decide_eq_true_eq, decide_eq_false_iff_not, Bool.not_eq_true', Bool.not_eq_false', Bool.and_eq_true, Bool.not_eq_true, Bool.not_eq_false] at hc13
    have hb2 := hc13
    refine wp_skip ?_
    refine then_n ?_
    refine wp_seq ?_
    refine wp_seq ?_
    refine reg ?_
    refine plain (y_move rfl rfl) rfl rfl rfl H12 ?_
    clear H12; intro a18 H18
    refine st_callg rfl z_call78 rfl rfl rfl rfl H18 (rwin4 _ _ _) ?_
    clear H18; intro a19 wx19 H19
    refine plain ((by first | exact y_not_d rfl rfl | exact y_not rfl rfl)) rfl rfl rfl H19 ?_
    clear H19; intro a20 H20
    refine fin ?_
    refine then_n ?_
    refine cnd H20 rfl (fun hc21 => ?_) (fun hc21 => ?_) -- cond 2
    · skip
      try simp only [decide_eq_true_eq, decide_eq_false_iff_not, Bool.not_eq_true', Bool.not_eq_false', Bool.and_eq_true, Bool.not_eq_true, Bool.not_eq_false] at hc21
      have hk1 := hc21
      refine wp_seq ?_
      refine reg ?_
      refine plain (y_build rfl z_zeroN50 z_places50 rfl lay_n) rfl rfl rfl H20 ?_
      clear H20; intro a22 H22
      refine st_storeN rfl z_size50 rfl rfl (agg_cells _) (by repeat (first | exact Uh | apply Ut)) (q_one_c8b32b32 rfl rfl rfl rfl rfl rfl rfl rfl) (q_len_c8b32b32 (by first | assumption | exact Seal.tag_len _ _ _) (by first | assumption | exact Seal.tag_len _ _ _)) (q_len_c8b32b32 (by first | assumption | exact Seal.tag_len _ _ _) (by first | assumption | exact Seal.tag_len _ _ _)) (q_spl_c8b32b32_0_c8b32b32 (by first | assumption | exact Seal.tag_len _ _ _) (by first | assumption | exact Seal.tag_len _ _ _) (by first | assumption | exact Seal.tag_len _ _ _) (by first | assumption | exact Seal.tag_len _ _ _)) (by decide) rfl rfl H22 ?_
      clear H22; intro wx23 H23
      refine plain (y_assign rfl rfl) rfl rfl rfl H23 ?_
      clear H23; intro a24 H24
      refine fin ?_
      refine then_n ?_
      refine wp_ret ?_
      refine then_r ?_
      -- return 2
      refine retct rfl H24 rfl z_agg50 z_size50 (by repeat (first | exact Mh | apply Mt)) (q_len_c8b32b32 (by first | assumption | exact Seal.tag_len _ _ _) (by first | assumption | exact Seal.tag_len _ _ _)) rfl ?_
      first | (have hz := Txs.hand_err (who := who) hb1; exact ⟨_, [], rfl, ⟨by rw [hz]; rfl, rfl⟩, H24.sep.sub (List.nil_sublist _)⟩) | (have hz := Txs.hand_who hb2 hk1; exact ⟨_, [], rfl, ⟨by rw [hz]; rfl, rfl⟩, H24.sep.sub (List.nil_sublist _)⟩) | (have hz := Txs.hand_lane hb2 hk2 hl1; exact ⟨_, [], rfl, ⟨by rw [hz]; rfl, rfl⟩, H24.sep.sub (List.nil_sublist _)⟩) | (have hz := Txs.hand_ok hb2 hk2 hl2; exact ⟨_, [], rfl, ⟨by rw [hz]; rfl, rfl⟩, H24.sep.sub (List.nil_sublist _)⟩)
    · skip
      try simp only [decide_eq_true_eq, decide_eq_false_iff_not, Bool.not_eq_true', Bool.not_eq_false', Bool.and_eq_true, Bool.not_eq_true, Bool.not_eq_false] at hc21
      have hk2 := Decidable.not_not.1 hc21
      refine wp_skip ?_
      refine then_n ?_
      refine wp_seq ?_
      refine wp_seq ?_
      refine reg ?_
      refine plain (y_fieldB rfl z_field50_5 rfl (by first | (simp only [Nat.zero_add, Nat.add_zero, Nat.reduceAdd]; rfl) | rfl)) rfl rfl rfl H20 ?_
      clear H20; intro a25 H25
      refine plain (y_loadB rfl z_agg4 rfl (by repeat (first | exact Mh | apply Mt)) q_ix_c8b32b32_5) rfl rfl rfl H25 ?_
      clear H25; intro a26 H26
      refine plain ((by first | exact y_not_d rfl rfl | exact y_not rfl rfl)) rfl rfl rfl H26 ?_
      clear H26; intro a27 H27
      refine fin ?_
      refine then_n ?_
      refine cnd H27 rfl (fun hc28 => ?_) (fun hc28 => ?_) -- cond 3
      · skip
        try simp only [decide_eq_true_eq, decide_eq_false_iff_not, Bool.not_eq_true', Bool.not_eq_false', Bool.and_eq_true, Bool.not_eq_true, Bool.not_eq_false] at hc28
        have hl1 : t.lane = false := by simpa using hc28
        refine wp_seq ?_
        refine reg ?_
        refine plain (y_build rfl z_zeroN50 z_places50 rfl lay_n) rfl rfl rfl H27 ?_
        clear H27; intro a29 H29
        refine st_storeN rfl z_size50 rfl rfl (agg_cells _) (by repeat (first | exact Uh | apply Ut)) (q_one_c8b32b32 rfl rfl rfl rfl rfl rfl rfl rfl) (q_len_c8b32b32 (by first | assumption | exact Seal.tag_len _ _ _) (by first | assumption | exact Seal.tag_len _ _ _)) (q_len_c8b32b32 (by first | assumption | exact Seal.tag_len _ _ _) (by first | assumption | exact Seal.tag_len _ _ _)) (q_spl_c8b32b32_0_c8b32b32 (by first | assumption | exact Seal.tag_len _ _ _) (by first | assumption | exact Seal.tag_len _ _ _) (by first | assumption | exact Seal.tag_len _ _ _) (by first | assumption | exact Seal.tag_len _ _ _)) (by decide) rfl rfl H29 ?_
        clear H29; intro wx30 H30
        refine plain (y_assign rfl rfl) rfl rfl rfl H30 ?_
        clear H30; intro a31 H31
        refine fin ?_
        refine then_n ?_
        refine wp_ret ?_
        refine then_r ?_
        -- return 3
        refine retct rfl H31 rfl z_agg50 z_size50 (by repeat (first | exact Mh | apply Mt)) (q_len_c8b32b32 (by first | assumption | exact Seal.tag_len _ _ _) (by first | assumption | exact Seal.tag_len _ _ _)) rfl ?_
        first | (have hz := Txs.hand_err (who := who) hb1; exact ⟨_, [], rfl, ⟨by rw [hz]; rfl, rfl⟩, H31.sep.sub (List.nil_sublist _)⟩) | (have hz := Txs.hand_who hb2 hk1; exact ⟨_, [], rfl, ⟨by rw [hz]; rfl, rfl⟩, H31.sep.sub (List.nil_sublist _)⟩) | (have hz := Txs.hand_lane hb2 hk2 hl1; exact ⟨_, [], rfl, ⟨by rw [hz]; rfl, rfl⟩, H31.sep.sub (List.nil_sublist _)⟩) | (have hz := Txs.hand_ok hb2 hk2 hl2; exact ⟨_, [], rfl, ⟨by rw [hz]; rfl, rfl⟩, H31.sep.sub (List.nil_sublist _)⟩)
      · skip
        try simp only [decide_eq_true_eq, decide_eq_false_iff_not, Bool.not_eq_true', Bool.not_eq_false', Bool.and_eq_true, Bool.not_eq_true, Bool.not_eq_false] at hc28
        have hl2 : t.lane = true := by simpa using hc28
        refine wp_skip ?_
        refine then_n ?_
        refine wp_seq ?_
        refine reg ?_
        refine plain (y_move rfl rfl) rfl rfl rfl H27 ?_
        clear H27; intro a32 H32
        refine plain (y_move rfl rfl) rfl rfl rfl H32 ?_
        clear H32; intro a33 H33
        refine st_callg rfl z_call76 rfl rfl rfl rfl H33 (rtag who 2 hw (by decide) (Txs.body t).1 (by omega) _) ?_
        clear H33; intro a34 wx34 H34
        refine plain (y_move rfl rfl) rfl rfl rfl H34 ?_
        clear H34; intro a35 H35
        refine plain (y_extract rfl rfl rfl) rfl rfl rfl H35 ?_
        clear H35; intro a36 H36
        refine plain (y_extract rfl rfl rfl) rfl rfl rfl H36 ?_
        clear H36; intro a37 H37
        refine st_alloc rfl z_zeroN28 rfl rfl rfl H37 ?_
        clear H37; intro b38 a38 wx38 H38
        refine st_storeN rfl z_size28 rfl rfl (agg_cells _) (by repeat (first | exact Uh | apply Ut)) q_one_b32 (q_len_b32 (by first | assumption | exact Seal.tag_len _ _ _)) (q_len_b32 (by first | assumption | exact Seal.tag_len _ _ _)) (q_spl_b32_0_b32 (by first | assumption | exact Seal.tag_len _ _ _) (by first | assumption | exact Seal.tag_len _ _ _)) (by decide) rfl rfl H38 ?_
        clear H38; intro wx39 H39
        refine plain (y_assign rfl rfl) rfl rfl rfl H39 ?_
        clear H39; intro a40 H40
        refine fin ?_
        refine then_n ?_
        refine wp_seq ?_
        refine reg ?_
        refine plain (y_loadAB rfl z_agg28 z_size28 rfl (by repeat (first | exact Mh | apply Mt)) (q_ld_b32_0_32 (by first | assumption | exact Seal.tag_len _ _ _)) (q_len_b32 (by first | assumption | exact Seal.tag_len _ _ _))) rfl rfl rfl H40 ?_
        clear H40; intro a41 H41
        refine plain (y_fieldB rfl z_field50_8 rfl (by first | (simp only [Nat.zero_add, Nat.add_zero, Nat.reduceAdd]; rfl) | rfl)) rfl rfl rfl H41 ?_
        clear H41; intro a42 H42
        refine st_storeN rfl z_size28 rfl rfl (agg_cells _) (by repeat (first | exact Uh | apply Ut)) q_one_b32 (q_len_b32 (by first | assumption | exact Seal.tag_len _ _ _)) (q_len_c8b32b32 (by first | assumption | exact Seal.tag_len _ _ _) (by first | assumption | exact Seal.tag_len _ _ _)) (q_spl_c8b32b32_8_b32 (by first | assumption | exact Seal.tag_len _ _ _) (by first | assumption | exact Seal.tag_len _ _ _)) (by decide) rfl rfl H42 ?_
        clear H42; intro wx43 H43
        refine fin ?_
        refine then_n ?_
        refine wp_seq ?_
        refine reg ?_
        refine plain (y_loadAB rfl z_agg50 z_size50 rfl (by repeat (first | exact Mh | apply Mt)) (q_ld_c8b32b32_0_72 (by first | assumption | exact Seal.tag_len _ _ _) (by first | assumption | exact Seal.tag_len _ _ _)) (q_len_c8b32b32 (by first | assumption | exact Seal.tag_len _ _ _) (by first | assumption | exact Seal.tag_len _ _ _))) rfl rfl rfl H43 ?_
        clear H43; intro a44 H44
        refine st_storeN rfl z_size50 rfl rfl (agg_cells _) (by repeat (first | exact Uh | apply Ut)) (q_one_c8b32b32 rfl rfl rfl rfl rfl rfl rfl rfl) (q_len_c8b32b32 (by first | assumption | exact Seal.tag_len _ _ _) (by first | assumption | exact Seal.tag_len _ _ _)) (q_len_c8b32b32 (by first | assumption | exact Seal.tag_len _ _ _) (by first | assumption | exact Seal.tag_len _ _ _)) (q_spl_c8b32b32_0_c8b32b32 (by first | assumption | exact Seal.tag_len _ _ _) (by first | assumption | exact Seal.tag_len _ _ _) (by first | assumption | exact Seal.tag_len _ _ _) (by first | assumption | exact Seal.tag_len _ _ _)) (by decide) rfl rfl H44 ?_
        clear H44; intro wx45 H45
        refine plain (y_assign rfl rfl) rfl rfl rfl H45 ?_
        clear H45; intro a46 H46
        refine fin ?_
        refine then_n ?_
        refine wp_ret ?_
        -- return 4
        refine retct rfl H46 rfl z_agg50 z_size50 (by repeat (first | exact Mh | apply Mt)) (q_len_c8b32b32 (by first | assumption | exact Seal.tag_len _ _ _) (by first | assumption | exact Seal.tag_len _ _ _)) rfl ?_
        first | (have hz := Txs.hand_err (who := who) hb1; exact ⟨_, [], rfl, ⟨by rw [hz]; rfl, rfl⟩, H46.sep.sub (List.nil_sublist _)⟩) | (have hz := Txs.hand_who hb2 hk1; exact ⟨_, [], rfl, ⟨by rw [hz]; rfl, rfl⟩, H46.sep.sub (List.nil_sublist _)⟩) | (have hz := Txs.hand_lane hb2 hk2 hl1; exact ⟨_, [], rfl, ⟨by rw [hz]; rfl, rfl⟩, H46.sep.sub (List.nil_sublist _)⟩) | (have hz := Txs.hand_ok hb2 hk2 hl2; exact ⟨_, [], rfl, ⟨by rw [hz]; rfl, rfl⟩, H46.sep.sub (List.nil_sublist _)⟩)

end Go.Proofs.YtaeahloenahelaaDoor.A_RHand

set_option linter.unusedVariables false
set_option linter.unusedSimpArgs false
namespace Go.Proofs.YtaeahloenahelaaDoor.A_X1
open Go.Sx Go.RowKit

theorem z_field60_0 : fieldB Tryd.prog 60 0 = some 0 := by kernel_rfl
theorem z_agg3 : aggB Tryd.prog 3 = some false := by kernel_rfl
theorem z_field60_1 : fieldB Tryd.prog 60 1 = some 1 := by kernel_rfl
theorem z_agg58 : aggB Tryd.prog 58 = some false := by kernel_rfl
theorem z_size57 : sizeB Tryd.prog 57 = some 3 := by kernel_rfl
theorem z_field57_0 : fieldB Tryd.prog 57 0 = some 0 := by kernel_rfl
theorem z_call79 : callB Tryd.prog 79 = true := by kernel_rfl
theorem z_call24 : callB Tryd.prog 24 = true := by kernel_rfl
theorem q_ix_c2_1 {a0 a1 : Value} : (a0 :: a1 :: [])[1]? = some a1 := (ix_c (o := 0) ix_0)
theorem z_zeroN57 : zeroL Tryd.prog 57 = some ((.int .i64 0 :: (.int .i64 0 :: (.int .i64 0 :: [])))) := by kernel_rfl
theorem z_places57 : placesB Tryd.prog 57 = some [(0, 1), (1, 1), (2, 1)] := by kernel_rfl
theorem q_len_c3 {a0 a1 a2 : Value} : (a0 :: a1 :: a2 :: []).length = 3 := (len_c (n := 2) (len_c (n := 1) (len_c (n := 0) len_n)))
theorem q_spl_c3_0_c1 {a0 a1 a2 : Value} {b0 : Value} : spl (a0 :: a1 :: a2 :: []) 0 (b0 :: []) = b0 :: a1 :: a2 :: [] := spl_0
theorem q_spl_c3_1_c1 {a0 a1 a2 : Value} {b0 : Value} : spl (a0 :: a1 :: a2 :: []) 1 (b0 :: []) = a0 :: b0 :: a2 :: [] := (spl_c (o := 0) spl_0)
theorem z_zero57 : zeroL Tryd.prog 57 = some ([.int .i64 0, .int .i64 0, .int .i64 0]) := by kernel_rfl
theorem z_slice58 : sliceB Tryd.prog 58 = some (57, 3, 24) := by kernel_rfl
theorem z_notint58 : notIntB Tryd.prog 58 = true := by kernel_rfl
theorem z_size58 : sizeB Tryd.prog 58 = some 1 := by kernel_rfl
theorem q_len_c2 {a0 a1 : Value} : (a0 :: a1 :: []).length = 2 := (len_c (n := 1) (len_c (n := 0) len_n))
theorem q_set_c2_1 {a0 a1 : Value} {v : Value} : (a0 :: a1 :: []).set 1 v = a0 :: v :: [] := (set_c (o := 0) set_0)

set_option maxRecDepth 100000 in
set_option maxHeartbeats 1000000 in
theorem xwho (n : Int) (w : World) : Calls Tryd.prog 79 #[.int .i64 n] w (Gives (.bool (decide (Txs.within n 63))) [] w) := by
  have lz32 : (List.replicate 32 (0 : UInt8)).length = 32 := List.length_replicate
  refine enterL (args := [.int .i64 n]) Tryd.func79 rfl rfl (l := []) (Sep.refl _) ?_
  intro a0 H0
  refine wp_seq ?_
  refine reg ?_
  refine plain (y_assign rfl rfl) rfl rfl rfl H0 ?_
  clear H0; intro a1 H1
  refine fin ?_
  refine then_n ?_
  refine wp_seq ?_
  refine reg ?_
  refine plain (y_move rfl rfl) rfl rfl rfl H1 ?_
  clear H1; intro a2 H2
  refine plain (y_geq rfl rfl rfl) rfl rfl rfl H2 ?_
  clear H2; intro a3 H3
  refine plain (y_move rfl rfl) rfl rfl rfl H3 ?_
  clear H3; intro a4 H4
  refine Sx.part (d := 5) H4 rfl (fun hg5 => ?_) (fun hg5 => ?_)
  · first
    | fail
    | skip
      clear H4; intro H6
      try simp only [decide_eq_true_eq, decide_eq_false_iff_not, Bool.not_eq_true', Bool.not_eq_false', Bool.and_eq_true, Bool.not_eq_true, Bool.not_eq_false] at hg5
      refine plain (y_move rfl rfl) rfl rfl rfl H6 ?_
      clear H6; intro a7 H7
      refine plain (y_leq rfl rfl rfl) rfl rfl rfl H7 ?_
      clear H7; intro a8 H8
      refine plain (y_pick_t rfl rfl rfl) rfl rfl rfl H8 ?_
      clear H8; intro a9 H9
      refine plain (y_assign rfl rfl) rfl rfl rfl H9 ?_
      clear H9; intro a10 H10
      refine fin ?_
      refine then_n ?_
      refine wp_ret ?_
      -- return 1
      refine ret1 rfl H10 rfl ?_
      refine ⟨_, [], rfl, ⟨?_, rfl⟩, H10.sep.sub (List.nil_sublist _)⟩
      clear H10
      first | exact congrArg Value.bool (decide_eq_decide.2 (by unfold Txs.within; omega)) | exact congrArg Value.bool (decide_eq_false (by unfold Txs.within; omega)).symm
  · first
    | fail
    | skip
      clear H4; intro H11
      try simp only [decide_eq_true_eq, decide_eq_false_iff_not, Bool.not_eq_true', Bool.not_eq_false', Bool.and_eq_true, Bool.not_eq_true, Bool.not_eq_false] at hg5
      refine skip rfl rfl rfl H11 ?_
      clear H11; intro a12 H12
      refine skip rfl rfl rfl H12 ?_
      clear H12; intro a13 H13
      refine plain (y_pick_f rfl rfl rfl) rfl rfl rfl H13 ?_
      clear H13; intro a14 H14
      refine plain (y_assign rfl rfl) rfl rfl rfl H14 ?_
      clear H14; intro a15 H15
      refine fin ?_
      refine then_n ?_
      refine wp_ret ?_
      -- return 2
      refine ret1 rfl H15 rfl ?_
      refine ⟨_, [], rfl, ⟨?_, rfl⟩, H15.sep.sub (List.nil_sublist _)⟩
      clear H15
      first | exact congrArg Value.bool (decide_eq_decide.2 (by unfold Txs.within; omega)) | exact congrArg Value.bool (decide_eq_false (by unfold Txs.within; omega)).symm
set_option maxRecDepth 100000 in
set_option maxHeartbeats 1000000 in
theorem xround (len now : Int) (hlen : 1 ≤ len) (hnow : Note.I64 now) (x : Nat) (v : Value) {w : World} (hx : (It.blk x 60 [i64 len, v]).P w)  : Calls Tryd.prog 22 #[.pointer (some ⟨x, 0, none⟩), .int .i64 now] w (Gives (.int .i64 (Lane.roundOf len now)) [] w) := by
  have hn2 := hnow.2
  have lz32 : (List.replicate 32 (0 : UInt8)).length = 32 := List.length_replicate
  refine enterL (args := [.pointer (some ⟨x, 0, none⟩), .int .i64 now]) Tryd.func22 rfl rfl (l := []) (Sep.refl _) ?_
  intro a0 H0
  refine wp_seq ?_
  refine reg ?_
  refine plain (y_assign rfl rfl) rfl rfl rfl H0 ?_
  clear H0; intro a1 H1
  refine fin ?_
  refine then_n ?_
  refine wp_seq ?_
  refine wp_seq ?_
  refine reg ?_
  refine plain (y_move rfl rfl) rfl rfl rfl H1 ?_
  clear H1; intro a2 H2
  refine plain (y_lss rfl rfl rfl) rfl rfl rfl H2 ?_
  clear H2; intro a3 H3
  refine fin ?_
  refine then_n ?_
  refine cnd H3 rfl (fun hc4 => ?_) (fun hc4 => ?_) -- cond 1
  · skip
    try simp only [decide_eq_true_eq, decide_eq_false_iff_not, Bool.not_eq_true', Bool.not_eq_false', Bool.and_eq_true, Bool.not_eq_true, Bool.not_eq_false] at hc4
    refine wp_seq ?_
    refine reg ?_
    refine plain (y_assign rfl rfl) rfl rfl rfl H3 ?_
    clear H3; intro a5 H5
    refine fin ?_
    refine then_n ?_
    refine wp_ret ?_
    refine then_r ?_
    -- return 1
    refine ret1 rfl H5 rfl ?_
    refine ⟨_, [], rfl, ⟨?_, rfl⟩, H5.sep.sub (List.nil_sublist _)⟩
    first | exact congrArg (Value.int .i64) (Lane.round_neg (by omega)).symm | exact congrArg (Value.int .i64) (Lane.round_pos (by omega)).symm
  · skip
    try simp only [decide_eq_true_eq, decide_eq_false_iff_not, Bool.not_eq_true', Bool.not_eq_false', Bool.and_eq_true, Bool.not_eq_true, Bool.not_eq_false] at hc4
    refine wp_skip ?_
    refine then_n ?_
    refine wp_seq ?_
    have hxr := Lane.xrem (len := len) (now := now) hlen (by omega)
    refine qreg (by kernel_rfl) (by kernel_rfl) H3 ?_
    have F6 := H3.fr
    clear H3
    refine qplain (y_move rfl rfl) rfl rfl rfl F6 ?_
    clear F6; intro a7 H7
    refine qplain (y_move rfl rfl) rfl rfl rfl H7 ?_
    clear H7; intro a8 H8
    refine qplain (y_move rfl rfl) rfl rfl rfl H8 ?_
    clear H8; intro a9 H9
    refine qplain (y_nilCheck rfl rfl) rfl rfl rfl H9 ?_
    clear H9; intro a10 H10
    refine qplain (y_fieldB rfl z_field60_0 rfl (by first | (simp only [Nat.zero_add, Nat.add_zero, Nat.reduceAdd]; rfl) | rfl)) rfl rfl rfl H10 ?_
    clear H10; intro a11 H11
    refine qplain (y_loadO rfl z_agg3 rfl (blk_cell hx (by rfl)) (by simp)) rfl rfl rfl H11 ?_
    clear H11; intro a12 H12
    refine qplain (y_rem rfl rfl rfl (by first | decide | omega) (Int.tmod_eq_emod_of_nonneg (by omega))) rfl rfl rfl H12 ?_
    clear H12; intro a13 H13
    refine qplain (y_sub rfl rfl rfl (by first | exact w64 (by omega) (by omega) | rfl)) rfl rfl rfl H13 ?_
    clear H13; intro a14 H14
    refine qplain (y_move rfl rfl) rfl rfl rfl H14 ?_
    clear H14; intro a15 H15
    refine qplain (y_nilCheck rfl rfl) rfl rfl rfl H15 ?_
    clear H15; intro a16 H16
    refine qplain (y_fieldB rfl z_field60_0 rfl (by first | (simp only [Nat.zero_add, Nat.add_zero, Nat.reduceAdd]; rfl) | rfl)) rfl rfl rfl H16 ?_
    clear H16; intro a17 H17
    refine qplain (y_loadO rfl z_agg3 rfl (blk_cell hx (by rfl)) (by simp)) rfl rfl rfl H17 ?_
    clear H17; intro a18 H18
    refine qplain (y_quo rfl rfl rfl (by first | decide | omega) (Lane.xdiv hlen (by omega) hnow.2)) rfl rfl rfl H18 ?_
    clear H18; intro a19 H19
    refine qplain (y_assign rfl rfl) rfl rfl rfl H19 ?_
    clear H19; intro a20 H20
    refine qfin H20 ?_
    clear H20; intro wx21 H21
    refine then_n ?_
    refine wp_ret ?_
    -- return 2
    refine ret1 rfl H21 rfl ?_
    refine ⟨_, [], rfl, ⟨?_, rfl⟩, H21.sep.sub (List.nil_sublist _)⟩
    first | exact congrArg (Value.int .i64) (Lane.round_neg (by omega)).symm | exact congrArg (Value.int .i64) (Lane.round_pos (by omega)).symm
set_option maxRecDepth 100000 in
set_option maxHeartbeats 1000000 in
theorem xat (len : Int) (L : List Lane.Held) (r : Int) (x : Nat) (v : Value) (hl : L.length ≤ 1000000) {w : World} (hx : (It.blk x 60 [i64 len, v]).P w) (hr : (It.row 57 3 v L.length (Lane.hc L)).P w)  : Calls Tryd.prog 24 #[.pointer (some ⟨x, 0, none⟩), .int .i64 r] w (Gives (.int .i64 (Lane.atOf L r)) [] w) := by
  obtain ⟨A, cc, rfl, hR, hmx⟩ := Row.rd hr
  have lz32 : (List.replicate 32 (0 : UInt8)).length = 32 := List.length_replicate
  refine enterL (args := [.pointer (some ⟨x, 0, none⟩), .int .i64 r]) Tryd.func24 rfl rfl (l := []) (Sep.refl _) ?_
  intro a0 H0
  refine wp_seq ?_
  refine reg ?_
  refine plain (y_assign rfl rfl) rfl rfl rfl H0 ?_
  clear H0; intro a1 H1
  refine fin ?_
  refine then_n ?_
  refine wp_seq ?_
  refine wp_seq ?_
  refine reg ?_
  refine plain (y_assign rfl rfl) rfl rfl rfl H1 ?_
  clear H1; intro a2 H2
  refine fin ?_
  refine then_n ?_
  refine wp_block ?_
  refine loop (ι := Nat) (fun k => [(0, .pointer (some ⟨x, 0, none⟩)), (1, .int .i64 r), (5, .int .i64 (k : Int))]) (fun k => []) (fun k => k ≤ L.length ∧ ∀ j, j < k → (L.getD j Lane.Held.zero).round ≠ r) (fun k => L.length - k) (0) ⟨Nat.zero_le _, fun j hj => absurd hj (by omega)⟩ (H2.weak ⟨rfl, rfl, rfl, trivial⟩ rfl) ?_
  clear H2; intro k a3 wx3 hok3 H3
  obtain ⟨hok, hne⟩ := hok3
  refine wp_seq ?_
  refine wp_seq ?_
  refine reg ?_
  refine plain (y_move rfl rfl) rfl rfl rfl H3 ?_
  clear H3; intro a4 H4
  refine plain (y_move rfl rfl) rfl rfl rfl H4 ?_
  clear H4; intro a5 H5
  refine plain (y_nilCheck rfl rfl) rfl rfl rfl H5 ?_
  clear H5; intro a6 H6
  refine plain (y_fieldB rfl z_field60_1 rfl (by first | (simp only [Nat.zero_add, Nat.add_zero, Nat.reduceAdd]; rfl) | rfl)) rfl rfl rfl H6 ?_
  clear H6; intro a7 H7
  refine plain (y_loadO rfl z_agg58 rfl (blk_cell hx (by rfl)) (by simp)) rfl rfl rfl H7 ?_
  clear H7; intro a8 H8
  refine plain (y_len rfl Tryd.underlying58 rfl) rfl rfl rfl H8 ?_
  clear H8; intro a9 H9
  refine plain (y_lss rfl rfl rfl) rfl rfl rfl H9 ?_
  clear H9; intro a10 H10
  refine fin ?_
  refine then_n ?_
  refine cnd H10 rfl (fun hc11 => ?_) (fun hc11 => ?_) -- cond 1
  · skip
    try simp only [decide_eq_true_eq, decide_eq_false_iff_not, Bool.not_eq_true', Bool.not_eq_false', Bool.and_eq_true, Bool.not_eq_true, Bool.not_eq_false] at hc11
    refine wp_skip ?_
    refine then_n ?_
    refine wp_seq ?_
    refine wp_block ?_
    refine wp_seq ?_
    refine reg ?_
    refine plain (y_move rfl rfl) rfl rfl rfl H10 ?_
    clear H10; intro a12 H12
    refine plain (y_nilCheck rfl rfl) rfl rfl rfl H12 ?_
    clear H12; intro a13 H13
    refine plain (y_fieldB rfl z_field60_1 rfl (by first | (simp only [Nat.zero_add, Nat.add_zero, Nat.reduceAdd]; rfl) | rfl)) rfl rfl rfl H13 ?_
    clear H13; intro a14 H14
    refine plain (y_loadO rfl z_agg58 rfl (blk_cell hx (by rfl)) (by simp)) rfl rfl rfl H14 ?_
    clear H14; intro a15 H15
    refine plain (y_move rfl rfl) rfl rfl rfl H15 ?_
    clear H15; intro a16 H16
    refine plain (y_ixR rfl Tryd.underlying58 z_size57 rfl rfl (by omega) (by omega) (rd_old hR (by simp)) (by rw [Lane.hc_len]; omega)) rfl rfl rfl H16 ?_
    clear H16; intro a17 H17
    refine plain (y_fieldS rfl z_field57_0 rfl (rd_old hR (by simp)) (by rw [Lane.hc_len]; omega)) rfl rfl rfl H17 ?_
    clear H17; intro a18 H18
    refine plain (y_loadR rfl z_agg3 rfl (rd_old hR (by simp)) (by simp only [Int.toNat_natCast, Nat.zero_add, Nat.add_zero]; exact (show _ = some (i64 (L.getD k Lane.Held.zero).round) from Lane.hc_at (c := 0) (by omega) (by omega)))) rfl rfl rfl H18 ?_
    clear H18; intro a19 H19
    refine plain (y_move rfl rfl) rfl rfl rfl H19 ?_
    clear H19; intro a20 H20
    refine plain (y_eql rfl rfl rfl) rfl rfl rfl H20 ?_
    clear H20; intro a21 H21
    refine fin ?_
    refine then_n ?_
    refine cnd H21 rfl (fun hc22 => ?_) (fun hc22 => ?_) -- cond 2
    · skip
      try simp only [decide_eq_true_eq, decide_eq_false_iff_not, Bool.not_eq_true', Bool.not_eq_false', Bool.and_eq_true, Bool.not_eq_true, Bool.not_eq_false] at hc22
      refine wp_seq ?_
      refine reg ?_
      refine plain (y_move rfl rfl) rfl rfl rfl H21 ?_
      clear H21; intro a23 H23
      refine plain (y_assign rfl rfl) rfl rfl rfl H23 ?_
      clear H23; intro a24 H24
      refine fin ?_
      refine then_n ?_
      refine wp_ret ?_
      refine inb_r ?_
      refine then_r ?_
      refine then_r ?_
      refine inb_r ?_
      refine then_r ?_
      -- return 1
      refine ret1 rfl H24 rfl ?_
      refine ⟨_, [], rfl, ⟨?_, rfl⟩, H24.sep.sub (List.nil_sublist _)⟩
      first | exact congrArg (Value.int .i64) (Lane.at_is (k := k) (by omega) (by assumption) hne).symm | exact congrArg (Value.int .i64) (Lane.at_no (fun j hj => hne j (by omega))).symm
    · skip
      try simp only [decide_eq_true_eq, decide_eq_false_iff_not, Bool.not_eq_true', Bool.not_eq_false', Bool.and_eq_true, Bool.not_eq_true, Bool.not_eq_false] at hc22
      refine wp_skip ?_
      refine inb_n ?_
      refine then_n ?_
      refine reg ?_
      refine plain (y_move rfl rfl) rfl rfl rfl H21 ?_
      clear H21; intro a25 H25
      refine plain (y_add rfl rfl rfl (by first | exact w64 (by omega) (by omega) | rfl)) rfl rfl rfl H25 ?_
      clear H25; intro a26 H26
      refine plain (y_assign rfl rfl) rfl rfl rfl H26 ?_
      clear H26; intro a27 H27
      refine fin ?_
      refine then_n ?_
      refine ⟨k + 1, by omega, ⟨by omega, fun j hj => ?_⟩, H27.weak ⟨rfl, rfl, fi rfl (by omega), trivial⟩ rfl⟩
      by_cases e : j = k
      · subst e; assumption
      · exact hne j (by omega)
  · skip
    try simp only [decide_eq_true_eq, decide_eq_false_iff_not, Bool.not_eq_true', Bool.not_eq_false', Bool.and_eq_true, Bool.not_eq_true, Bool.not_eq_false] at hc11
    refine wp_exit ?_
    refine then_x ?_
    refine then_x ?_
    refine inb_hit ?_
    refine then_n ?_
    refine wp_seq ?_
    refine reg ?_
    refine plain (y_assign rfl rfl) rfl rfl rfl H10 ?_
    clear H10; intro a28 H28
    refine fin ?_
    refine then_n ?_
    refine wp_ret ?_
    -- return 2
    refine ret1 rfl H28 rfl ?_
    refine ⟨_, [], rfl, ⟨?_, rfl⟩, H28.sep.sub (List.nil_sublist _)⟩
    first | exact congrArg (Value.int .i64) (Lane.at_is (k := k) (by omega) (by assumption) hne).symm | exact congrArg (Value.int .i64) (Lane.at_no (fun j hj => hne j (by omega))).symm
set_option maxRecDepth 100000 in
set_option maxHeartbeats 1000000 in
theorem xset (len : Int) (L : List Lane.Held) (hl : L.length ≤ 1000000) (x : Nat) (v : Value) (r who : Int) {w : World} (hs : Sep (fps [It.row 57 3 v L.length (Lane.hc L), It.blk x 60 [i64 len, v]]) w w [It.row 57 3 v L.length (Lane.hc L), It.blk x 60 [i64 len, v]]) : Calls Tryd.prog 53 #[.pointer (some ⟨x, 0, none⟩), .int .i64 r, .int .i64 who] w (Post (fps [It.row 57 3 v L.length (Lane.hc L), It.blk x 60 [i64 len, v]]) w fun u l' => u = .int .i64 (Lane.set ⟨len, L⟩ r who).2 ∧ ∃ v', l' = [It.row 57 3 v' (Lane.set ⟨len, L⟩ r who).1.L.length (Lane.hc (Lane.set ⟨len, L⟩ r who).1.L), It.blk x 60 [i64 len, v']]) := by
  have lz32 : (List.replicate 32 (0 : UInt8)).length = 32 := List.length_replicate
  refine enterL (args := [.pointer (some ⟨x, 0, none⟩), .int .i64 r, .int .i64 who]) Tryd.func53 rfl rfl (l := [It.row 57 3 v L.length (Lane.hc L), It.blk x 60 [i64 len, v]]) hs ?_
  intro a0 H0
  refine wp_seq ?_
  refine reg ?_
  refine plain (y_assign rfl rfl) rfl rfl rfl H0 ?_
  clear H0; intro a1 H1
  refine fin ?_
  refine then_n ?_
  refine wp_seq ?_
  refine wp_seq ?_
  refine reg ?_
  refine plain (y_move rfl rfl) rfl rfl rfl H1 ?_
  clear H1; intro a2 H2
  refine plain (y_lss rfl rfl rfl) rfl rfl rfl H2 ?_
  clear H2; intro a3 H3
  refine fin ?_
  refine then_n ?_
  refine cnd H3 rfl (fun hc4 => ?_) (fun hc4 => ?_) -- cond 1
  · skip
    try simp only [decide_eq_true_eq, decide_eq_false_iff_not, Bool.not_eq_true', Bool.not_eq_false', Bool.and_eq_true, Bool.not_eq_true, Bool.not_eq_false] at hc4
    refine wp_seq ?_
    refine reg ?_
    refine plain (y_assign rfl rfl) rfl rfl rfl H3 ?_
    clear H3; intro a5 H5
    refine fin ?_
    refine then_n ?_
    refine wp_ret ?_
    refine then_r ?_
    -- return 1
    refine ret1 rfl H5 rfl ?_
    first | (rw [Lane.set_neg (by omega)]; exact ⟨_, _, rfl, ⟨rfl, _, rfl⟩, H5.sep⟩) | (rw [Lane.set_who (by omega) hw1]; exact ⟨_, _, rfl, ⟨rfl, _, rfl⟩, H5.sep⟩) | (rw [Lane.set_twice (by omega) hw2 ha1]; exact ⟨_, _, rfl, ⟨rfl, _, rfl⟩, H5.sep⟩) | (rw [Lane.set_ok (by omega) hw2 ha2]; refine ⟨_, _, rfl, ⟨rfl, .slice ArW (L.length + 1) crW, ?_⟩, H5.sep.sub (List.Sublist.cons _ (List.Sublist.refl _))⟩; dsimp only; rw [Lane.hc_append, Lane.hc_one, List.length_append]; rfl)
  · skip
    try simp only [decide_eq_true_eq, decide_eq_false_iff_not, Bool.not_eq_true', Bool.not_eq_false', Bool.and_eq_true, Bool.not_eq_true, Bool.not_eq_false] at hc4
    refine wp_skip ?_
    refine then_n ?_
    refine wp_seq ?_
    refine wp_seq ?_
    refine reg ?_
    refine plain (y_move rfl rfl) rfl rfl rfl H3 ?_
    clear H3; intro a6 H6
    refine st_callg rfl z_call79 rfl rfl rfl rfl H6 (xwho _ _) ?_
    clear H6; intro a7 wx7 H7
    refine plain ((by first | exact y_not_d rfl rfl | exact y_not rfl rfl)) rfl rfl rfl H7 ?_
    clear H7; intro a8 H8
    refine fin ?_
    refine then_n ?_
    refine cnd H8 rfl (fun hc9 => ?_) (fun hc9 => ?_) -- cond 2
    · skip
      try simp only [decide_eq_true_eq, decide_eq_false_iff_not, Bool.not_eq_true', Bool.not_eq_false', Bool.and_eq_true, Bool.not_eq_true, Bool.not_eq_false] at hc9
      have hw1 := hc9
      refine wp_seq ?_
      refine reg ?_
      refine plain (y_assign rfl rfl) rfl rfl rfl H8 ?_
      clear H8; intro a10 H10
      refine fin ?_
      refine then_n ?_
      refine wp_ret ?_
      refine then_r ?_
      -- return 2
      refine ret1 rfl H10 rfl ?_
      first | (rw [Lane.set_neg (by omega)]; exact ⟨_, _, rfl, ⟨rfl, _, rfl⟩, H10.sep⟩) | (rw [Lane.set_who (by omega) hw1]; exact ⟨_, _, rfl, ⟨rfl, _, rfl⟩, H10.sep⟩) | (rw [Lane.set_twice (by omega) hw2 ha1]; exact ⟨_, _, rfl, ⟨rfl, _, rfl⟩, H10.sep⟩) | (rw [Lane.set_ok (by omega) hw2 ha2]; refine ⟨_, _, rfl, ⟨rfl, .slice ArW (L.length + 1) crW, ?_⟩, H10.sep.sub (List.Sublist.cons _ (List.Sublist.refl _))⟩; dsimp only; rw [Lane.hc_append, Lane.hc_one, List.length_append]; rfl)
    · skip
      try simp only [decide_eq_true_eq, decide_eq_false_iff_not, Bool.not_eq_true', Bool.not_eq_false', Bool.and_eq_true, Bool.not_eq_true, Bool.not_eq_false] at hc9
      have hw2 := Decidable.not_not.1 hc9
      refine wp_skip ?_
      refine then_n ?_
      refine wp_seq ?_
      refine wp_seq ?_
      refine reg ?_
      refine plain (y_move rfl rfl) rfl rfl rfl H8 ?_
      clear H8; intro a11 H11
      refine plain (y_move rfl rfl) rfl rfl rfl H11 ?_
      clear H11; intro a12 H12
      refine st_callg rfl z_call24 rfl rfl rfl rfl H12 (xat len L r x v hl (H12.sep.all _ (by repeat (first | exact Mh | apply Mt))) (H12.sep.all _ (by repeat (first | exact Mh | apply Mt)))) ?_
      clear H12; intro a13 wx13 H13
      refine plain (y_geq rfl rfl rfl) rfl rfl rfl H13 ?_
      clear H13; intro a14 H14
      refine fin ?_
      refine then_n ?_
      refine cnd H14 rfl (fun hc15 => ?_) (fun hc15 => ?_) -- cond 3
      · skip
        try simp only [decide_eq_true_eq, decide_eq_false_iff_not, Bool.not_eq_true', Bool.not_eq_false', Bool.and_eq_true, Bool.not_eq_true, Bool.not_eq_false] at hc15
        have ha1 : (Lane.hm L r).isSome = true := by rw [Lane.at_hm]; exact decide_eq_true hc15
        refine wp_seq ?_
        refine reg ?_
        refine plain (y_assign rfl rfl) rfl rfl rfl H14 ?_
        clear H14; intro a16 H16
        refine fin ?_
        refine then_n ?_
        refine wp_ret ?_
        refine then_r ?_
        -- return 3
        refine ret1 rfl H16 rfl ?_
        first | (rw [Lane.set_neg (by omega)]; exact ⟨_, _, rfl, ⟨rfl, _, rfl⟩, H16.sep⟩) | (rw [Lane.set_who (by omega) hw1]; exact ⟨_, _, rfl, ⟨rfl, _, rfl⟩, H16.sep⟩) | (rw [Lane.set_twice (by omega) hw2 ha1]; exact ⟨_, _, rfl, ⟨rfl, _, rfl⟩, H16.sep⟩) | (rw [Lane.set_ok (by omega) hw2 ha2]; refine ⟨_, _, rfl, ⟨rfl, .slice ArW (L.length + 1) crW, ?_⟩, H16.sep.sub (List.Sublist.cons _ (List.Sublist.refl _))⟩; dsimp only; rw [Lane.hc_append, Lane.hc_one, List.length_append]; rfl)
      · skip
        try simp only [decide_eq_true_eq, decide_eq_false_iff_not, Bool.not_eq_true', Bool.not_eq_false', Bool.and_eq_true, Bool.not_eq_true, Bool.not_eq_false] at hc15
        have ha2 : (Lane.hm L r).isSome = false := by rw [Lane.at_hm]; exact decide_eq_false hc15
        refine wp_skip ?_
        refine then_n ?_
        refine wp_seq ?_
        refine reg ?_
        refine plain (y_move rfl rfl) rfl rfl rfl H14 ?_
        clear H14; intro a17 H17
        refine plain (y_move rfl rfl) rfl rfl rfl H17 ?_
        clear H17; intro a18 H18
        refine plain (y_nilCheck rfl rfl) rfl rfl rfl H18 ?_
        clear H18; intro a19 H19
        refine plain (y_fieldB rfl z_field60_1 rfl (by first | (simp only [Nat.zero_add, Nat.add_zero, Nat.reduceAdd]; rfl) | rfl)) rfl rfl rfl H19 ?_
        clear H19; intro a20 H20
        refine plain (y_loadB rfl z_agg58 rfl (by repeat (first | exact Mh | apply Mt)) q_ix_c2_1) rfl rfl rfl H20 ?_
        clear H20; intro a21 H21
        refine plain (y_move rfl rfl) rfl rfl rfl H21 ?_
        clear H21; intro a22 H22
        refine plain (y_move rfl rfl) rfl rfl rfl H22 ?_
        clear H22; intro a23 H23
        refine plain (y_build rfl z_zeroN57 z_places57 rfl (lay_1 (off := 0) (n := 3) rfl q_len_c3 (by decide) q_spl_c3_0_c1 (lay_1 (off := 1) (n := 3) rfl q_len_c3 (by decide) q_spl_c3_1_c1 lay_n (by rfl)) (by rfl))) rfl rfl rfl H23 ?_
        clear H23; intro a24 H24
        refine st_buildSlice rfl Tryd.underlying58 z_size57 z_zero57 rfl rfl rfl (lay_agg (agg_cells _) rfl rfl) rfl rfl rfl H24 ?_
        clear H24; intro b25 a25 wx25 H25
        refine st_append rfl z_slice58 z_notint58 rfl rfl (fun _ => (by repeat (first | exact Uh | apply Ut))) (fun w hs => Src.slice ((rd_blkA (by repeat (first | exact Mh | apply Mt))) w hs) rfl (by simp [Value.oneCell'])) (by unfold maxLen at *; first | omega | (simp only [List.length_cons, List.length_nil, List.length_append, List.length_map]; omega)) (by omega) rfl rfl rfl H25 ?_
        clear H25; intro v26 a26 wx26 hnil26 H26
        obtain ⟨ArW, crW, hvrW, hRrW, hmrW⟩ := row_shape (v := v26) H26.sep (by repeat (first | exact Mh | apply Mt))
        subst hvrW
        refine plain (y_nilCheck rfl rfl) rfl rfl rfl H26 ?_
        clear H26; intro a27 H27
        refine plain (y_fieldB rfl z_field60_1 rfl (by first | (simp only [Nat.zero_add, Nat.add_zero, Nat.reduceAdd]; rfl) | rfl)) rfl rfl rfl H27 ?_
        clear H27; intro a28 H28
        refine st_store1N rfl z_size58 rfl rfl rfl (by repeat (first | exact Uh | apply Ut)) q_len_c2 q_set_c2_1 (by decide) rfl rfl H28 ?_
        clear H28; intro wx29 H29
        refine fin ?_
        refine then_n ?_
        refine wp_seq ?_
        refine reg ?_
        refine plain (y_assign rfl rfl) rfl rfl rfl H29 ?_
        clear H29; intro a30 H30
        refine fin ?_
        refine then_n ?_
        refine wp_ret ?_
        -- return 4
        refine ret1 rfl H30 rfl ?_
        first | (rw [Lane.set_neg (by omega)]; exact ⟨_, _, rfl, ⟨rfl, _, rfl⟩, H30.sep⟩) | (rw [Lane.set_who (by omega) hw1]; exact ⟨_, _, rfl, ⟨rfl, _, rfl⟩, H30.sep⟩) | (rw [Lane.set_twice (by omega) hw2 ha1]; exact ⟨_, _, rfl, ⟨rfl, _, rfl⟩, H30.sep⟩) | (rw [Lane.set_ok (by omega) hw2 ha2]; refine ⟨_, _, rfl, ⟨rfl, .slice ArW (L.length + 1) crW, ?_⟩, H30.sep.sub (List.Sublist.cons _ (List.Sublist.refl _))⟩; dsimp only; rw [Lane.hc_append, Lane.hc_one, List.length_append]; rfl)

end Go.Proofs.YtaeahloenahelaaDoor.A_X1

set_option linter.unusedVariables false
set_option linter.unusedSimpArgs false
namespace Go.Proofs.YtaeahloenahelaaDoor.A_X2
open Go.Sx Go.RowKit Go.Proofs.YtaeahloenahelaaDoor.A_X1

theorem z_call79 : callB Tryd.prog 79 = true := by kernel_rfl
theorem z_call24 : callB Tryd.prog 24 = true := by kernel_rfl
theorem z_field60_1 : fieldB Tryd.prog 60 1 = some 1 := by kernel_rfl
theorem z_agg58 : aggB Tryd.prog 58 = some false := by kernel_rfl
theorem q_ix_c2_1 {a0 a1 : Value} : (a0 :: a1 :: [])[1]? = some a1 := (ix_c (o := 0) ix_0)
theorem z_size57 : sizeB Tryd.prog 57 = some 3 := by kernel_rfl
theorem z_field57_1 : fieldB Tryd.prog 57 1 = some 1 := by kernel_rfl
theorem z_agg3 : aggB Tryd.prog 3 = some false := by kernel_rfl
theorem z_call22 : callB Tryd.prog 22 = true := by kernel_rfl
theorem z_field57_2 : fieldB Tryd.prog 57 2 = some 2 := by kernel_rfl
theorem z_zeroN57 : zeroL Tryd.prog 57 = some ((.int .i64 0 :: (.int .i64 0 :: (.int .i64 0 :: [])))) := by kernel_rfl
theorem z_places57 : placesB Tryd.prog 57 = some [(0, 1), (1, 1), (2, 1)] := by kernel_rfl
theorem q_len_c3 {a0 a1 a2 : Value} : (a0 :: a1 :: a2 :: []).length = 3 := (len_c (n := 2) (len_c (n := 1) (len_c (n := 0) len_n)))
theorem q_spl_c3_0_c1 {a0 a1 a2 : Value} {b0 : Value} : spl (a0 :: a1 :: a2 :: []) 0 (b0 :: []) = b0 :: a1 :: a2 :: [] := spl_0
theorem q_spl_c3_1_c1 {a0 a1 a2 : Value} {b0 : Value} : spl (a0 :: a1 :: a2 :: []) 1 (b0 :: []) = a0 :: b0 :: a2 :: [] := (spl_c (o := 0) spl_0)
theorem q_spl_c3_2_c1 {a0 a1 a2 : Value} {b0 : Value} : spl (a0 :: a1 :: a2 :: []) 2 (b0 :: []) = a0 :: a1 :: b0 :: [] := (spl_c (o := 1) (spl_c (o := 0) spl_0))

set_option maxRecDepth 100000 in
set_option maxHeartbeats 2000000 in
theorem xgive (len : Int) (L : List Lane.Held) (hl : L.length ≤ 1000000) (x : Nat) (v : Value) (hlen : 1 ≤ len) (r src dst now : Int) (hnow : Note.I64 now) {w : World} (hs : Sep (fps [It.row 57 3 v L.length (Lane.hc L), It.blk x 60 [i64 len, v]]) w w [It.row 57 3 v L.length (Lane.hc L), It.blk x 60 [i64 len, v]]) : Calls Tryd.prog 54 #[.pointer (some ⟨x, 0, none⟩), .int .i64 r, .int .i64 src, .int .i64 dst, .int .i64 now] w (Post (fps [It.row 57 3 v L.length (Lane.hc L), It.blk x 60 [i64 len, v]]) w fun u l' => u = .int .i64 (Lane.give ⟨len, L⟩ r src dst now).2 ∧ ∃ v', l' = [It.row 57 3 v' (Lane.give ⟨len, L⟩ r src dst now).1.L.length (Lane.hc (Lane.give ⟨len, L⟩ r src dst now).1.L), It.blk x 60 [i64 len, v']]) := by
  obtain ⟨A, cc, rfl, hRx, hmx⟩ := row_shape (v := v) hs (by repeat (first | exact Mh | apply Mt))
  have lz32 : (List.replicate 32 (0 : UInt8)).length = 32 := List.length_replicate
  refine enterL (args := [.pointer (some ⟨x, 0, none⟩), .int .i64 r, .int .i64 src, .int .i64 dst, .int .i64 now]) Tryd.func54 rfl rfl (l := [It.row 57 3 (.slice A L.length cc) L.length (Lane.hc L), It.blk x 60 [i64 len, (.slice A L.length cc)]]) hs ?_
  intro a0 H0
  refine wp_seq ?_
  refine reg ?_
  refine plain (y_assign rfl rfl) rfl rfl rfl H0 ?_
  clear H0; intro a1 H1
  refine fin ?_
  refine then_n ?_
  refine wp_seq ?_
  refine wp_seq ?_
  refine reg ?_
  refine plain (y_move rfl rfl) rfl rfl rfl H1 ?_
  clear H1; intro a2 H2
  refine st_callg rfl z_call79 rfl rfl rfl rfl H2 (xwho _ _) ?_
  clear H2; intro a3 wx3 H3
  refine plain ((by first | exact y_not_d rfl rfl | exact y_not rfl rfl)) rfl rfl rfl H3 ?_
  clear H3; intro a4 H4
  refine plain (y_move rfl rfl) rfl rfl rfl H4 ?_
  clear H4; intro a5 H5
  refine Sx.part (d := 15) H5 rfl (fun hg6 => ?_) (fun hg6 => ?_)
  · first
    | fail
    | skip
      clear H5; intro H7
      try simp only [decide_eq_true_eq, decide_eq_false_iff_not, Bool.not_eq_true', Bool.not_eq_false', Bool.and_eq_true, Bool.not_eq_true, Bool.not_eq_false] at hg6
      have hg1 := hg6
      refine skip rfl rfl rfl H7 ?_
      clear H7; intro a8 H8
      refine skip rfl rfl rfl H8 ?_
      clear H8; intro a9 H9
      refine skip rfl rfl rfl H9 ?_
      clear H9; intro a10 H10
      refine plain (y_pick_t rfl rfl rfl) rfl rfl rfl H10 ?_
      clear H10; intro a11 H11
      refine fin ?_
      refine then_n ?_
      refine cnd_t H11 rfl ?_
      refine wp_seq ?_
      refine reg ?_
      refine plain (y_assign rfl rfl) rfl rfl rfl H11 ?_
      clear H11; intro a13 H13
      refine fin ?_
      refine then_n ?_
      refine wp_ret ?_
      refine then_r ?_
      -- return 1
      refine ret1 rfl H13 rfl ?_
      first | (rw [Lane.give_who (.inl hg1)]; exact ⟨_, _, rfl, ⟨rfl, _, rfl⟩, H13.sep⟩) | (rw [Lane.give_who (.inr hw1)]; exact ⟨_, _, rfl, ⟨rfl, _, rfl⟩, H13.sep⟩) | (rw [Lane.give_none hg2 hw2 (by rw [ha1.1])]; exact ⟨_, _, rfl, ⟨rfl, _, rfl⟩, H13.sep⟩) | (rw [Lane.give_tag hg2 hw2 (by rw [hwo.1]) (by rw [hwo.1]; assumption)]; exact ⟨_, _, rfl, ⟨rfl, _, rfl⟩, H13.sep⟩) | (rw [Lane.give_late hg2 hw2 (by rw [hwo.1]) (by rw [hwo.1]; omega) (by assumption)]; exact ⟨_, _, rfl, ⟨rfl, _, rfl⟩, H13.sep⟩) | (obtain ⟨y, hy, e⟩ := Lane.give_ok (l := ⟨len, L⟩) (now := now) hg2 hw2 (show (Lane.whoOf L r).2 = true by rw [hwo.1]) (show (Lane.whoOf L r).1 = src by rw [hwo.1]; omega) (by assumption); rw [e]; obtain rfl : L.getD i Lane.Held.zero = y := Option.some.inj (hlk.symm.trans hy); refine ⟨_, _, rfl, ⟨rfl, (.slice A L.length cc), ?_⟩, H13.sep⟩; dsimp only; rw [Lane.put_at hpl, Lane.hc_set _ _ _ hi, List.length_set]; rfl)
  · first
    | fail
    | skip
      clear H5; intro H14
      try simp only [decide_eq_true_eq, decide_eq_false_iff_not, Bool.not_eq_true', Bool.not_eq_false', Bool.and_eq_true, Bool.not_eq_true, Bool.not_eq_false] at hg6
      have hg2 := Decidable.not_not.1 hg6
      refine plain (y_move rfl rfl) rfl rfl rfl H14 ?_
      clear H14; intro a15 H15
      refine st_callg rfl z_call79 rfl rfl rfl rfl H15 (xwho _ _) ?_
      clear H15; intro a16 wx16 H16
      refine plain ((by first | exact y_not_d rfl rfl | exact y_not rfl rfl)) rfl rfl rfl H16 ?_
      clear H16; intro a17 H17
      refine plain (y_pick_f rfl rfl rfl) rfl rfl rfl H17 ?_
      clear H17; intro a18 H18
      refine fin ?_
      refine then_n ?_
      refine cnd H18 rfl (fun hc19 => ?_) (fun hc19 => ?_) -- cond 2
      · skip
        try simp only [decide_eq_true_eq, decide_eq_false_iff_not, Bool.not_eq_true', Bool.not_eq_false', Bool.and_eq_true, Bool.not_eq_true, Bool.not_eq_false] at hc19
        have hw1 := hc19
        refine wp_seq ?_
        refine reg ?_
        refine plain (y_assign rfl rfl) rfl rfl rfl H18 ?_
        clear H18; intro a20 H20
        refine fin ?_
        refine then_n ?_
        refine wp_ret ?_
        refine then_r ?_
        -- return 2
        refine ret1 rfl H20 rfl ?_
        first | (rw [Lane.give_who (.inl hg1)]; exact ⟨_, _, rfl, ⟨rfl, _, rfl⟩, H20.sep⟩) | (rw [Lane.give_who (.inr hw1)]; exact ⟨_, _, rfl, ⟨rfl, _, rfl⟩, H20.sep⟩) | (rw [Lane.give_none hg2 hw2 (by rw [ha1.1])]; exact ⟨_, _, rfl, ⟨rfl, _, rfl⟩, H20.sep⟩) | (rw [Lane.give_tag hg2 hw2 (by rw [hwo.1]) (by rw [hwo.1]; assumption)]; exact ⟨_, _, rfl, ⟨rfl, _, rfl⟩, H20.sep⟩) | (rw [Lane.give_late hg2 hw2 (by rw [hwo.1]) (by rw [hwo.1]; omega) (by assumption)]; exact ⟨_, _, rfl, ⟨rfl, _, rfl⟩, H20.sep⟩) | (obtain ⟨y, hy, e⟩ := Lane.give_ok (l := ⟨len, L⟩) (now := now) hg2 hw2 (show (Lane.whoOf L r).2 = true by rw [hwo.1]) (show (Lane.whoOf L r).1 = src by rw [hwo.1]; omega) (by assumption); rw [e]; obtain rfl : L.getD i Lane.Held.zero = y := Option.some.inj (hlk.symm.trans hy); refine ⟨_, _, rfl, ⟨rfl, (.slice A L.length cc), ?_⟩, H20.sep⟩; dsimp only; rw [Lane.put_at hpl, Lane.hc_set _ _ _ hi, List.length_set]; rfl)
      · skip
        try simp only [decide_eq_true_eq, decide_eq_false_iff_not, Bool.not_eq_true', Bool.not_eq_false', Bool.and_eq_true, Bool.not_eq_true, Bool.not_eq_false] at hc19
        have hw2 := Decidable.not_not.1 hc19
        refine wp_skip ?_
        refine then_n ?_
        refine wp_seq ?_
        refine reg ?_
        refine plain (y_move rfl rfl) rfl rfl rfl H18 ?_
        clear H18; intro a21 H21
        refine plain (y_move rfl rfl) rfl rfl rfl H21 ?_
        clear H21; intro a22 H22
        refine st_callg rfl z_call24 rfl rfl rfl rfl H22 (xat len L r x (.slice A L.length cc) hl (H22.sep.all _ (by repeat (first | exact Mh | apply Mt))) (H22.sep.all _ (by repeat (first | exact Mh | apply Mt)))) ?_
        clear H22; intro a23 wx23 H23
        refine plain (y_assign rfl rfl) rfl rfl rfl H23 ?_
        clear H23; intro a24 H24
        refine fin ?_
        refine then_n ?_
        refine wp_seq ?_
        refine wp_seq ?_
        refine reg ?_
        refine plain (y_move rfl rfl) rfl rfl rfl H24 ?_
        clear H24; intro a25 H25
        refine plain (y_lss rfl rfl rfl) rfl rfl rfl H25 ?_
        clear H25; intro a26 H26
        refine fin ?_
        refine then_n ?_
        refine cnd H26 rfl (fun hc27 => ?_) (fun hc27 => ?_) -- cond 3
        · skip
          try simp only [decide_eq_true_eq, decide_eq_false_iff_not, Bool.not_eq_true', Bool.not_eq_false', Bool.and_eq_true, Bool.not_eq_true, Bool.not_eq_false] at hc27
          have ha1 := Lane.who_at hc27
          refine wp_seq ?_
          refine reg ?_
          refine plain (y_assign rfl rfl) rfl rfl rfl H26 ?_
          clear H26; intro a28 H28
          refine fin ?_
          refine then_n ?_
          refine wp_ret ?_
          refine then_r ?_
          -- return 3
          refine ret1 rfl H28 rfl ?_
          first | (rw [Lane.give_who (.inl hg1)]; exact ⟨_, _, rfl, ⟨rfl, _, rfl⟩, H28.sep⟩) | (rw [Lane.give_who (.inr hw1)]; exact ⟨_, _, rfl, ⟨rfl, _, rfl⟩, H28.sep⟩) | (rw [Lane.give_none hg2 hw2 (by rw [ha1.1])]; exact ⟨_, _, rfl, ⟨rfl, _, rfl⟩, H28.sep⟩) | (rw [Lane.give_tag hg2 hw2 (by rw [hwo.1]) (by rw [hwo.1]; assumption)]; exact ⟨_, _, rfl, ⟨rfl, _, rfl⟩, H28.sep⟩) | (rw [Lane.give_late hg2 hw2 (by rw [hwo.1]) (by rw [hwo.1]; omega) (by assumption)]; exact ⟨_, _, rfl, ⟨rfl, _, rfl⟩, H28.sep⟩) | (obtain ⟨y, hy, e⟩ := Lane.give_ok (l := ⟨len, L⟩) (now := now) hg2 hw2 (show (Lane.whoOf L r).2 = true by rw [hwo.1]) (show (Lane.whoOf L r).1 = src by rw [hwo.1]; omega) (by assumption); rw [e]; obtain rfl : L.getD i Lane.Held.zero = y := Option.some.inj (hlk.symm.trans hy); refine ⟨_, _, rfl, ⟨rfl, (.slice A L.length cc), ?_⟩, H28.sep⟩; dsimp only; rw [Lane.put_at hpl, Lane.hc_set _ _ _ hi, List.length_set]; rfl)
        · skip
          try simp only [decide_eq_true_eq, decide_eq_false_iff_not, Bool.not_eq_true', Bool.not_eq_false', Bool.and_eq_true, Bool.not_eq_true, Bool.not_eq_false] at hc27
          obtain ⟨i, hi, hai, hpl, hlk⟩ := Lane.at_look hc27
          have hwo := Lane.at_who hlk
          rw [hai] at H26
          refine wp_skip ?_
          refine then_n ?_
          refine wp_seq ?_
          refine wp_seq ?_
          refine reg ?_
          refine plain (y_move rfl rfl) rfl rfl rfl H26 ?_
          clear H26; intro a29 H29
          refine plain (y_nilCheck rfl rfl) rfl rfl rfl H29 ?_
          clear H29; intro a30 H30
          refine plain (y_fieldB rfl z_field60_1 rfl (by first | (simp only [Nat.zero_add, Nat.add_zero, Nat.reduceAdd]; rfl) | rfl)) rfl rfl rfl H30 ?_
          clear H30; intro a31 H31
          refine plain (y_loadB rfl z_agg58 rfl (by repeat (first | exact Mh | apply Mt)) q_ix_c2_1) rfl rfl rfl H31 ?_
          clear H31; intro a32 H32
          refine plain (y_move rfl rfl) rfl rfl rfl H32 ?_
          clear H32; intro a33 H33
          refine plain (y_ixR rfl Tryd.underlying58 z_size57 rfl rfl (by omega) (by omega) (rd_row (by repeat (first | exact Mh | apply Mt))) (by rw [Lane.hc_len]; omega)) rfl rfl rfl H33 ?_
          clear H33; intro a34 H34
          refine plain (y_fieldS rfl z_field57_1 rfl (rd_row (by repeat (first | exact Mh | apply Mt))) (by rw [Lane.hc_len]; omega)) rfl rfl rfl H34 ?_
          clear H34; intro a35 H35
          refine plain (y_loadR rfl z_agg3 rfl (rd_row (by repeat (first | exact Mh | apply Mt))) (by simp only [hai, Int.toNat_natCast, Nat.zero_add, Nat.add_zero]; exact (show _ = some (i64 (L.getD i Lane.Held.zero).who) from Lane.hc_at (c := 1) hi (by omega)))) rfl rfl rfl H35 ?_
          clear H35; intro a36 H36
          refine plain (y_move rfl rfl) rfl rfl rfl H36 ?_
          clear H36; intro a37 H37
          refine plain (y_neq rfl rfl rfl) rfl rfl rfl H37 ?_
          clear H37; intro a38 H38
          refine fin ?_
          refine then_n ?_
          refine cnd H38 rfl (fun hc39 => ?_) (fun hc39 => ?_) -- cond 4
          · skip
            try simp only [decide_eq_true_eq, decide_eq_false_iff_not, Bool.not_eq_true', Bool.not_eq_false', Bool.and_eq_true, Bool.not_eq_true, Bool.not_eq_false] at hc39
            refine wp_seq ?_
            refine reg ?_
            refine plain (y_assign rfl rfl) rfl rfl rfl H38 ?_
            clear H38; intro a40 H40
            refine fin ?_
            refine then_n ?_
            refine wp_ret ?_
            refine then_r ?_
            -- return 4
            refine ret1 rfl H40 rfl ?_
            first | (rw [Lane.give_who (.inl hg1)]; exact ⟨_, _, rfl, ⟨rfl, _, rfl⟩, H40.sep⟩) | (rw [Lane.give_who (.inr hw1)]; exact ⟨_, _, rfl, ⟨rfl, _, rfl⟩, H40.sep⟩) | (rw [Lane.give_none hg2 hw2 (by rw [ha1.1])]; exact ⟨_, _, rfl, ⟨rfl, _, rfl⟩, H40.sep⟩) | (rw [Lane.give_tag hg2 hw2 (by rw [hwo.1]) (by rw [hwo.1]; assumption)]; exact ⟨_, _, rfl, ⟨rfl, _, rfl⟩, H40.sep⟩) | (rw [Lane.give_late hg2 hw2 (by rw [hwo.1]) (by rw [hwo.1]; omega) (by assumption)]; exact ⟨_, _, rfl, ⟨rfl, _, rfl⟩, H40.sep⟩) | (obtain ⟨y, hy, e⟩ := Lane.give_ok (l := ⟨len, L⟩) (now := now) hg2 hw2 (show (Lane.whoOf L r).2 = true by rw [hwo.1]) (show (Lane.whoOf L r).1 = src by rw [hwo.1]; omega) (by assumption); rw [e]; obtain rfl : L.getD i Lane.Held.zero = y := Option.some.inj (hlk.symm.trans hy); refine ⟨_, _, rfl, ⟨rfl, (.slice A L.length cc), ?_⟩, H40.sep⟩; dsimp only; rw [Lane.put_at hpl, Lane.hc_set _ _ _ hi, List.length_set]; rfl)
          · skip
            try simp only [decide_eq_true_eq, decide_eq_false_iff_not, Bool.not_eq_true', Bool.not_eq_false', Bool.and_eq_true, Bool.not_eq_true, Bool.not_eq_false] at hc39
            refine wp_skip ?_
            refine then_n ?_
            refine wp_seq ?_
            refine wp_seq ?_
            refine reg ?_
            refine plain (y_move rfl rfl) rfl rfl rfl H38 ?_
            clear H38; intro a41 H41
            refine plain (y_move rfl rfl) rfl rfl rfl H41 ?_
            clear H41; intro a42 H42
            refine plain (y_move rfl rfl) rfl rfl rfl H42 ?_
            clear H42; intro a43 H43
            refine st_callg rfl z_call22 rfl rfl rfl rfl H43 (xround len now hlen hnow x (.slice A L.length cc) (H43.sep.all _ (by repeat (first | exact Mh | apply Mt)))) ?_
            clear H43; intro a44 wx44 H44
            refine plain (y_lss rfl rfl rfl) rfl rfl rfl H44 ?_
            clear H44; intro a45 H45
            refine fin ?_
            refine then_n ?_
            refine cnd H45 rfl (fun hc46 => ?_) (fun hc46 => ?_) -- cond 5
            · skip
              try simp only [decide_eq_true_eq, decide_eq_false_iff_not, Bool.not_eq_true', Bool.not_eq_false', Bool.and_eq_true, Bool.not_eq_true, Bool.not_eq_false] at hc46
              refine wp_seq ?_
              refine reg ?_
              refine plain (y_assign rfl rfl) rfl rfl rfl H45 ?_
              clear H45; intro a47 H47
              refine fin ?_
              refine then_n ?_
              refine wp_ret ?_
              refine then_r ?_
              -- return 5
              refine ret1 rfl H47 rfl ?_
              first | (rw [Lane.give_who (.inl hg1)]; exact ⟨_, _, rfl, ⟨rfl, _, rfl⟩, H47.sep⟩) | (rw [Lane.give_who (.inr hw1)]; exact ⟨_, _, rfl, ⟨rfl, _, rfl⟩, H47.sep⟩) | (rw [Lane.give_none hg2 hw2 (by rw [ha1.1])]; exact ⟨_, _, rfl, ⟨rfl, _, rfl⟩, H47.sep⟩) | (rw [Lane.give_tag hg2 hw2 (by rw [hwo.1]) (by rw [hwo.1]; assumption)]; exact ⟨_, _, rfl, ⟨rfl, _, rfl⟩, H47.sep⟩) | (rw [Lane.give_late hg2 hw2 (by rw [hwo.1]) (by rw [hwo.1]; omega) (by assumption)]; exact ⟨_, _, rfl, ⟨rfl, _, rfl⟩, H47.sep⟩) | (obtain ⟨y, hy, e⟩ := Lane.give_ok (l := ⟨len, L⟩) (now := now) hg2 hw2 (show (Lane.whoOf L r).2 = true by rw [hwo.1]) (show (Lane.whoOf L r).1 = src by rw [hwo.1]; omega) (by assumption); rw [e]; obtain rfl : L.getD i Lane.Held.zero = y := Option.some.inj (hlk.symm.trans hy); refine ⟨_, _, rfl, ⟨rfl, (.slice A L.length cc), ?_⟩, H47.sep⟩; dsimp only; rw [Lane.put_at hpl, Lane.hc_set _ _ _ hi, List.length_set]; rfl)
            · skip
              try simp only [decide_eq_true_eq, decide_eq_false_iff_not, Bool.not_eq_true', Bool.not_eq_false', Bool.and_eq_true, Bool.not_eq_true, Bool.not_eq_false] at hc46
              refine wp_skip ?_
              refine then_n ?_
              refine wp_seq ?_
              refine hreg [It.blk x 60 [i64 len, (.slice A L.length cc)]] (fun _ h => (h.sub (by first | exact S0 | exact S1 | repeat (first | exact S1 | exact S0 | apply S2 | apply S3)))) (by kernel_rfl) H45 ?_
              clear H45; intro wx48 H48
              refine htake 0 rfl (by kernel_rfl) (y_move rfl rfl) rfl rfl rfl (fun _ h => (h.sub (by first | exact S0 | exact S1 | repeat (first | exact S1 | exact S0 | apply S2 | apply S3)))) H48 ?_
              clear H48; intro a49 H49
              refine htake 1 rfl (by kernel_rfl) (y_nilCheck rfl rfl) rfl rfl rfl (fun _ h => (h.sub (by first | exact S0 | exact S1 | repeat (first | exact S1 | exact S0 | apply S2 | apply S3)))) H49 ?_
              clear H49; intro a50 H50
              refine htake 2 rfl (by kernel_rfl) (y_fieldB rfl z_field60_1 rfl (by first | (simp only [Nat.zero_add, Nat.add_zero, Nat.reduceAdd]; rfl) | rfl)) rfl rfl rfl (fun _ h => (h.sub (by first | exact S0 | exact S1 | repeat (first | exact S1 | exact S0 | apply S2 | apply S3)))) H50 ?_
              clear H50; intro a51 H51
              refine htake 3 rfl (by kernel_rfl) (y_loadB rfl z_agg58 rfl (by repeat (first | exact Mh | apply Mt)) q_ix_c2_1) rfl rfl rfl (fun _ h => (h.sub (by first | exact S0 | exact S1 | repeat (first | exact S1 | exact S0 | apply S2 | apply S3)))) H51 ?_
              clear H51; intro a52 H52
              refine htake 4 rfl (by kernel_rfl) (y_move rfl rfl) rfl rfl rfl (fun _ h => (h.sub (by first | exact S0 | exact S1 | repeat (first | exact S1 | exact S0 | apply S2 | apply S3)))) H52 ?_
              clear H52; intro a53 H53
              refine htake 5 rfl (by kernel_rfl) (y_move rfl rfl) rfl rfl rfl (fun _ h => (h.sub (by first | exact S0 | exact S1 | repeat (first | exact S1 | exact S0 | apply S2 | apply S3)))) H53 ?_
              clear H53; intro a54 H54
              refine htake 6 rfl (by kernel_rfl) (y_move rfl rfl) rfl rfl rfl (fun _ h => (h.sub (by first | exact S0 | exact S1 | repeat (first | exact S1 | exact S0 | apply S2 | apply S3)))) H54 ?_
              clear H54; intro a55 H55
              refine htake 7 rfl (by kernel_rfl) (y_move rfl rfl) rfl rfl rfl (fun _ h => (h.sub (by first | exact S0 | exact S1 | repeat (first | exact S1 | exact S0 | apply S2 | apply S3)))) H55 ?_
              clear H55; intro a56 H56
              refine htake 8 rfl (by kernel_rfl) (y_nilCheck rfl rfl) rfl rfl rfl (fun _ h => (h.sub (by first | exact S0 | exact S1 | repeat (first | exact S1 | exact S0 | apply S2 | apply S3)))) H56 ?_
              clear H56; intro a57 H57
              refine htake 9 rfl (by kernel_rfl) (y_fieldB rfl z_field60_1 rfl (by first | (simp only [Nat.zero_add, Nat.add_zero, Nat.reduceAdd]; rfl) | rfl)) rfl rfl rfl (fun _ h => (h.sub (by first | exact S0 | exact S1 | repeat (first | exact S1 | exact S0 | apply S2 | apply S3)))) H57 ?_
              clear H57; intro a58 H58
              refine htake 10 rfl (by kernel_rfl) (y_loadB rfl z_agg58 rfl (by repeat (first | exact Mh | apply Mt)) q_ix_c2_1) rfl rfl rfl (fun _ h => (h.sub (by first | exact S0 | exact S1 | repeat (first | exact S1 | exact S0 | apply S2 | apply S3)))) H58 ?_
              clear H58; intro a59 H59
              refine htake 11 rfl (by kernel_rfl) (y_move rfl rfl) rfl rfl rfl (fun _ h => (h.sub (by first | exact S0 | exact S1 | repeat (first | exact S1 | exact S0 | apply S2 | apply S3)))) H59 ?_
              clear H59; intro a60 H60
              refine hgo 12 rfl (by kernel_rfl) ?_
              refine plain (y_ixR rfl Tryd.underlying58 z_size57 rfl rfl (by omega) (by omega) (rd_row (by repeat (first | exact Mh | apply Mt))) (by rw [Lane.hc_len]; omega)) rfl rfl rfl H60 ?_
              clear H60; intro a61 H61
              refine hfin (H61.sep.sub (by first | exact S0 | exact S1 | repeat (first | exact S1 | exact S0 | apply S2 | apply S3))) ?_
              refine hgo 13 rfl (by kernel_rfl) ?_
              refine plain (y_fieldS rfl z_field57_2 rfl (rd_row (by repeat (first | exact Mh | apply Mt))) (by rw [Lane.hc_len]; omega)) rfl rfl rfl H61 ?_
              clear H61; intro a62 H62
              refine hfin (H62.sep.sub (by first | exact S0 | exact S1 | repeat (first | exact S1 | exact S0 | apply S2 | apply S3))) ?_
              refine hgo 14 rfl (by kernel_rfl) ?_
              refine plain (y_loadR rfl z_agg3 rfl (rd_row (by repeat (first | exact Mh | apply Mt))) (by simp only [hai, Int.toNat_natCast, Nat.zero_add, Nat.add_zero]; exact (show _ = some (i64 (L.getD i Lane.Held.zero).turn) from Lane.hc_at (c := 2) hi (by omega)))) rfl rfl rfl H62 ?_
              clear H62; intro a63 H63
              refine hfin (H63.sep.sub (by first | exact S0 | exact S1 | repeat (first | exact S1 | exact S0 | apply S2 | apply S3))) ?_
              refine htake 15 rfl (by kernel_rfl) (y_build rfl z_zeroN57 z_places57 rfl (lay_1 (off := 0) (n := 3) rfl q_len_c3 (by decide) q_spl_c3_0_c1 (lay_1 (off := 1) (n := 3) rfl q_len_c3 (by decide) q_spl_c3_1_c1 (lay_1 (off := 2) (n := 3) rfl q_len_c3 (by decide) q_spl_c3_2_c1 lay_n (by rfl)) (by rfl)) (by rfl))) rfl rfl rfl (fun _ h => (h.sub (by first | exact S0 | exact S1 | repeat (first | exact S1 | exact S0 | apply S2 | apply S3)))) H63 ?_
              clear H63; intro a64 H64
              refine hgo 16 rfl (by kernel_rfl) ?_
              refine plain (y_ixR rfl Tryd.underlying58 z_size57 rfl rfl (by omega) (by omega) (rd_row (by repeat (first | exact Mh | apply Mt))) (by rw [Lane.hc_len]; omega)) rfl rfl rfl H64 ?_
              clear H64; intro a65 H65
              refine hfin (H65.sep.sub (by first | exact S0 | exact S1 | repeat (first | exact S1 | exact S0 | apply S2 | apply S3))) ?_
              refine hgo 17 rfl (by kernel_rfl) ?_
              refine st_storeRow rfl z_size57 rfl rfl (agg_cells _) (by simp [i64, Value.oneCell']) rfl (by decide) (by repeat (first | exact Uh | apply Ut)) (by rw [Lane.hc_len]; omega) rfl rfl H65 ?_
              clear H65; intro wx66 H66
              refine hfin (H66.sep.sub (by first | exact S0 | exact S1 | repeat (first | exact S1 | exact S0 | apply S2 | apply S3))) ?_
              refine hdone (by kernel_rfl) ?_
              refine then_n ?_
              refine wp_seq ?_
              refine reg ?_
              refine plain (y_assign rfl rfl) rfl rfl rfl H66 ?_
              clear H66; intro a67 H67
              refine fin ?_
              refine then_n ?_
              refine wp_ret ?_
              -- return 6
              refine ret1 rfl H67 rfl ?_
              first | (rw [Lane.give_who (.inl hg1)]; exact ⟨_, _, rfl, ⟨rfl, _, rfl⟩, H67.sep⟩) | (rw [Lane.give_who (.inr hw1)]; exact ⟨_, _, rfl, ⟨rfl, _, rfl⟩, H67.sep⟩) | (rw [Lane.give_none hg2 hw2 (by rw [ha1.1])]; exact ⟨_, _, rfl, ⟨rfl, _, rfl⟩, H67.sep⟩) | (rw [Lane.give_tag hg2 hw2 (by rw [hwo.1]) (by rw [hwo.1]; assumption)]; exact ⟨_, _, rfl, ⟨rfl, _, rfl⟩, H67.sep⟩) | (rw [Lane.give_late hg2 hw2 (by rw [hwo.1]) (by rw [hwo.1]; omega) (by assumption)]; exact ⟨_, _, rfl, ⟨rfl, _, rfl⟩, H67.sep⟩) | (obtain ⟨y, hy, e⟩ := Lane.give_ok (l := ⟨len, L⟩) (now := now) hg2 hw2 (show (Lane.whoOf L r).2 = true by rw [hwo.1]) (show (Lane.whoOf L r).1 = src by rw [hwo.1]; omega) (by assumption); rw [e]; obtain rfl : L.getD i Lane.Held.zero = y := Option.some.inj (hlk.symm.trans hy); refine ⟨_, _, rfl, ⟨rfl, (.slice A L.length cc), ?_⟩, H67.sep⟩; dsimp only; rw [Lane.put_at hpl, Lane.hc_set _ _ _ hi, List.length_set]; rfl)

end Go.Proofs.YtaeahloenahelaaDoor.A_X2
