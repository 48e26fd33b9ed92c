/- Part of a proof about given Go functions: contracts of functions, or plain laws. -/
import Derived.Test.YtaeahloenahelaaDoorLaneV
import Derived.Test.YtaeahloenahelaaDoorSxI
import Derived.Test.YtaeahloenahelaaDoorSxN
import Derived.Test.YtaeahloenahelaaDoorSxK
import Derived.Test.YtaeahloenahelaaDoorSxM
import Derived.Test.YtaeahloenahelaaDoorProg
import Derived.Test.YtaeahloenahelaaDoorW1
import Derived.Test.YtaeahloenahelaaDoorW2
import Derived.Test.YtaeahloenahelaaDoorSxW
import Derived.Test.YtaeahloenahelaaDoorSha
import Derived.Test.YtaeahloenahelaaDoorShaAbc
import Derived.Test.YtaeahloenahelaaDoorSxX
import Derived.Test.YtaeahloenahelaaDoorSxY
import Derived.Test.YtaeahloenahelaaDoorSeal
import Derived.Test.YtaeahloenahelaaDoorShaKey
import Derived.Test.YtaeahloenahelaaDoorOct2
import Derived.Test.YtaeahloenahelaaDoorSxTx
set_option linter.unusedVariables false
set_option linter.unusedSimpArgs false
namespace Go.Proofs.YtaeahloenahelaaDoor.A_Ln3
open Go.Sx Go.RowKit Go.Proofs.YtaeahloenahelaaDoor.A_Block Go.Proofs.YtaeahloenahelaaDoor.A_Sum Go.Proofs.YtaeahloenahelaaDoor.A_Ref Go.Proofs.YtaeahloenahelaaDoor.A_RSum Go.Proofs.YtaeahloenahelaaDoor.A_Ln1 Go.Proofs.YtaeahloenahelaaDoor.A_Tx Go.Proofs.YtaeahloenahelaaDoor.A_Body Go.Proofs.YtaeahloenahelaaDoor.A_Chk Go.Proofs.YtaeahloenahelaaDoor.A_Leaf Go.Proofs.YtaeahloenahelaaDoor.A_Key

theorem z_zeroN101 : zeroL Tryd.prog 101 = some ((.int .i64 0 :: (.map none :: (.map none :: [])))) := by kernel_rfl
theorem z_places101 : placesB Tryd.prog 101 = some [(0, 1), (1, 1), (2, 1)] := by kernel_rfl
theorem q_len_c3 {a0 a1 a2 : Value} : (a0 :: a1 :: a2 :: []).length = 3 := (len_c (n := 2) (len_c (n := 1) (len_c (n := 0) len_n)))
theorem q_spl_c3_0_c1 {a0 a1 a2 : Value} {b0 : Value} : spl (a0 :: a1 :: a2 :: []) 0 (b0 :: []) = b0 :: a1 :: a2 :: [] := spl_0
theorem q_spl_c3_1_c1 {a0 a1 a2 : Value} {b0 : Value} : spl (a0 :: a1 :: a2 :: []) 1 (b0 :: []) = a0 :: b0 :: a2 :: [] := (spl_c (o := 0) spl_0)
theorem q_spl_c3_2_c1 {a0 a1 a2 : Value} {b0 : Value} : spl (a0 :: a1 :: a2 :: []) 2 (b0 :: []) = a0 :: a1 :: b0 :: [] := (spl_c (o := 1) (spl_c (o := 0) spl_0))
theorem z_agg50 : aggB Tryd.prog 50 = some true := by kernel_rfl
theorem z_size50 : sizeB Tryd.prog 50 = some 72 := by kernel_rfl
theorem q_ld_c8b32b32_0_72 {a0 a1 a2 a3 a4 a5 a6 a7 : Value} {t8 t9 : List UInt8} (h8 : t8.length = 32) (h9 : t9.length = 32) : ((a0 :: a1 :: a2 :: a3 :: a4 :: a5 :: a6 :: a7 :: (t8.map u8 ++ (t9.map u8))).drop 0).take 72 = a0 :: a1 :: a2 :: a3 :: a4 :: a5 :: a6 :: a7 :: (t8.map u8 ++ (t9.map u8)) := (ld_a (len_c (n := 71) (len_c (n := 70) (len_c (n := 69) (len_c (n := 68) (len_c (n := 67) (len_c (n := 66) (len_c (n := 65) (len_c (n := 64) (len_b (k := 32) (n := 32) h8 (len_e (k := 32) h9)))))))))))
theorem q_len_c8b32b32 {a0 a1 a2 a3 a4 a5 a6 a7 : Value} {t8 t9 : List UInt8} (h8 : t8.length = 32) (h9 : t9.length = 32) : (a0 :: a1 :: a2 :: a3 :: a4 :: a5 :: a6 :: a7 :: (t8.map u8 ++ (t9.map u8))).length = 72 := (len_c (n := 71) (len_c (n := 70) (len_c (n := 69) (len_c (n := 68) (len_c (n := 67) (len_c (n := 66) (len_c (n := 65) (len_c (n := 64) (len_b (k := 32) (n := 32) h8 (len_e (k := 32) h9))))))))))
theorem z_call59 : callB Tryd.prog 59 = true := by kernel_rfl
theorem z_field50_8 : fieldB Tryd.prog 50 8 = some 8 := by kernel_rfl
theorem z_agg28 : aggB Tryd.prog 28 = some true := by kernel_rfl
theorem z_size28 : sizeB Tryd.prog 28 = some 32 := by kernel_rfl
theorem q_ld_c8b32b32_8_32 {a0 a1 a2 a3 a4 a5 a6 a7 : Value} {t8 t9 : List UInt8} (h8 : t8.length = 32) : ((a0 :: a1 :: a2 :: a3 :: a4 :: a5 :: a6 :: a7 :: (t8.map u8 ++ (t9.map u8))).drop 8).take 32 = t8.map u8 := (ld_c (o := 7) (ld_c (o := 6) (ld_c (o := 5) (ld_c (o := 4) (ld_c (o := 3) (ld_c (o := 2) (ld_c (o := 1) (ld_c (o := 0) (ld_h h8)))))))))
theorem q_len_b32 {t0 : List UInt8} (h0 : t0.length = 32) : (t0.map u8).length = 32 := (len_e (k := 32) h0)
theorem z_call60 : callB Tryd.prog 60 = true := by kernel_rfl
theorem z_call57 : callB Tryd.prog 57 = true := by kernel_rfl
theorem z_field50_6 : fieldB Tryd.prog 50 6 = some 6 := by kernel_rfl
theorem z_agg3 : aggB Tryd.prog 3 = some false := by kernel_rfl
theorem q_ix_c8b32b32_6 {a0 a1 a2 a3 a4 a5 a6 a7 : Value} {t8 t9 : List UInt8} : (a0 :: a1 :: a2 :: a3 :: a4 :: a5 :: a6 :: a7 :: (t8.map u8 ++ (t9.map u8)))[6]? = some a6 := (ix_c (o := 5) (ix_c (o := 4) (ix_c (o := 3) (ix_c (o := 2) (ix_c (o := 1) (ix_c (o := 0) ix_0))))))
theorem z_call23 : callB Tryd.prog 23 = true := by kernel_rfl
theorem z_field50_5 : fieldB Tryd.prog 50 5 = some 5 := by kernel_rfl
theorem z_agg4 : aggB Tryd.prog 4 = some false := by kernel_rfl
theorem q_ix_c8b32b32_5 {a0 a1 a2 a3 a4 a5 a6 a7 : Value} {t8 t9 : List UInt8} : (a0 :: a1 :: a2 :: a3 :: a4 :: a5 :: a6 :: a7 :: (t8.map u8 ++ (t9.map u8)))[5]? = some a5 := (ix_c (o := 4) (ix_c (o := 3) (ix_c (o := 2) (ix_c (o := 1) (ix_c (o := 0) ix_0)))))
theorem z_call19 : callB Tryd.prog 19 = true := by kernel_rfl
theorem z_call58 : callB Tryd.prog 58 = true := by kernel_rfl
theorem z_field50_7 : fieldB Tryd.prog 50 7 = some 7 := by kernel_rfl
theorem q_ix_c8b32b32_7 {a0 a1 a2 a3 a4 a5 a6 a7 : Value} {t8 t9 : List UInt8} : (a0 :: a1 :: a2 :: a3 :: a4 :: a5 :: a6 :: a7 :: (t8.map u8 ++ (t9.map u8)))[7]? = some a7 := (ix_c (o := 6) (ix_c (o := 5) (ix_c (o := 4) (ix_c (o := 3) (ix_c (o := 2) (ix_c (o := 1) (ix_c (o := 0) ix_0)))))))
theorem z_call25 : callB Tryd.prog 25 = true := by kernel_rfl
theorem z_call27 : callB Tryd.prog 27 = true := by kernel_rfl
theorem z_field101_2 : fieldB Tryd.prog 101 2 = some 2 := by kernel_rfl
theorem z_agg99 : aggB Tryd.prog 99 = some false := by kernel_rfl
theorem q_ix_c3_2 {a0 a1 a2 : Value} : (a0 :: a1 :: a2 :: [])[2]? = some a2 := (ix_c (o := 1) (ix_c (o := 0) ix_0))
theorem z_zval3 : (Tryd.prog.info? 3).bind (·.zero) = some (.int .i64 0) := by kernel_rfl

set_option maxRecDepth 100000 in
set_option maxHeartbeats 1000000 in
theorem lnew (len : Int) (h1 : 1 ≤ len ∧ len ≤ 1099511627776) (w : World) : Calls Tryd.prog 17 #[.int .i64 len] w (Post [] w fun v l' => ∃ b h u, v = .tuple #[.pointer (some ⟨b, 0, none⟩), .int .i64 0] ∧ l' = [It.blk b 101 (Lane.lc len h u), It.mp h (Lane.hm []), It.mp u (fun _ => none)]) := by
  have lz32 : (List.replicate 32 (0 : UInt8)).length = 32 := List.length_replicate
  refine enterL (args := [.int .i64 len]) Tryd.func17 rfl rfl (l := []) (Sep.refl _) ?_
  intro a0 H0
  refine wp_seq ?_
  refine reg ?_
  refine plain (y_assign rfl rfl) rfl rfl rfl H0 ?_
  clear H0; intro a1 H1
  refine plain (y_assign rfl rfl) rfl rfl rfl H1 ?_
  clear H1; intro a2 H2
  refine fin ?_
  refine then_n ?_
  refine wp_seq ?_
  refine wp_seq ?_
  refine reg ?_
  refine plain (y_move rfl rfl) rfl rfl rfl H2 ?_
  clear H2; intro a3 H3
  refine plain (y_lss rfl rfl rfl) rfl rfl rfl H3 ?_
  clear H3; intro a4 H4
  refine plain (y_move rfl rfl) rfl rfl rfl H4 ?_
  clear H4; intro a5 H5
  have H7 := H5.know (d := 6) (v := .bool false) rfl (congrArg Value.bool (decide_eq_false (by omega)))
  clear H5
  refine plain (y_move rfl rfl) rfl rfl rfl H7 ?_
  clear H7; intro a8 H8
  refine plain (y_gtr rfl rfl rfl) rfl rfl rfl H8 ?_
  clear H8; intro a9 H9
  refine plain (y_pick_f rfl rfl rfl) rfl rfl rfl H9 ?_
  clear H9; intro a10 H10
  refine fin ?_
  refine then_n ?_
  refine cnd H10 rfl (fun hc11 => ?_) (fun hc11 => ?_) -- cond 1
  · (try simp only [decide_eq_true_eq, decide_eq_false_iff_not, Bool.not_eq_true', Bool.not_eq_false', Bool.and_eq_true, Bool.not_eq_true, Bool.not_eq_false] at hc11); (exfalso; omega)
  · skip
    try simp only [decide_eq_true_eq, decide_eq_false_iff_not, Bool.not_eq_true', Bool.not_eq_false', Bool.and_eq_true, Bool.not_eq_true, Bool.not_eq_false] at hc11
    refine wp_skip ?_
    refine then_n ?_
    refine wp_seq ?_
    refine reg ?_
    refine plain (y_move rfl rfl) rfl rfl rfl H10 ?_
    clear H10; intro a12 H12
    refine st_makeMap rfl rfl rfl rfl H12 ?_
    clear H12; intro b13 a13 wx13 H13
    refine st_makeMap rfl rfl rfl rfl H13 ?_
    clear H13; intro b14 a14 wx14 H14
    refine plain (y_build rfl z_zeroN101 z_places101 rfl (lay_1 (off := 0) (n := 3) rfl q_len_c3 (by decide) q_spl_c3_0_c1 (lay_1 (off := 1) (n := 3) rfl q_len_c3 (by decide) q_spl_c3_1_c1 (lay_1 (off := 2) (n := 3) rfl q_len_c3 (by decide) q_spl_c3_2_c1 lay_n (by rfl)) (by rfl)) (by rfl))) rfl rfl rfl H14 ?_
    clear H14; intro a15 H15
    refine st_box rfl rfl (agg_cells _) rfl rfl rfl H15 ?_
    clear H15; intro b16 a16 wx16 H16
    refine plain (y_assign rfl rfl) rfl rfl rfl H16 ?_
    clear H16; intro a17 H17
    refine plain (y_assign rfl rfl) rfl rfl rfl H17 ?_
    clear H17; intro a18 H18
    refine fin ?_
    refine then_n ?_
    refine wp_ret ?_
    -- return 1
    refine ret2 rfl H18 rfl rfl ?_
    first | (exfalso; omega) | (refine ⟨_, _, rfl, ⟨b16, b13, b14, rfl, rfl⟩, ?_⟩; rw [Lane.hm_nil]; exact H18.sep.perm (List.Perm.cons _ (List.Perm.swap _ _ _)))
set_option maxRecDepth 100000 in
set_option maxHeartbeats 1000000 in
theorem ltheirs0 (bT : Nat) (t : Txs.Tx) (wf : Txs.Tx.Wf t) (who : Int) (hw : Note.I64 who) {w : World} (hp : (It.blk bT 50 (Txs.Tx.cells t)).P w) (hG : Glob 0 Sha.K w) (hz : 0 ∉ [bT]) : Calls Tryd.prog 58 #[.int .i64 who, .pointer (some ⟨bT, 0, none⟩)] w (Post [bT] w (fun v l => ∃ l', l = l' ++ [It.blk bT 50 (Txs.Tx.cells t)] ∧ v = .bool (decide (Seal.check who 2 (Txs.body t).1 t.hand = 0)) ∧ l' = [])) := by
  have whd := wf.hand
  have wtg := wf.tag
  have hbl := Txs.body_len t
  have lz32 : (List.replicate 32 (0 : UInt8)).length = 32 := List.length_replicate
  have lz0 := wf.hand
  have lz1 := wf.tag
  refine enterL (args := [.int .i64 who, .pointer (some ⟨bT, 0, none⟩)]) Tryd.func58 rfl rfl (l := [It.blk bT 50 (Txs.Tx.cells t)]) (Sep.one hp) ?_
  intro a0 H0
  refine wp_seq ?_
  refine reg ?_
  refine plain (y_assign rfl rfl) rfl rfl rfl H0 ?_
  clear H0; intro a1 H1
  refine fin ?_
  refine then_n ?_
  refine wp_seq ?_
  refine reg ?_
  refine plain (y_loadAB rfl z_agg50 z_size50 rfl (by repeat (first | exact Mh | apply Mt)) (q_ld_c8b32b32_0_72 (by assumption) (by assumption)) (q_len_c8b32b32 (by assumption) (by assumption))) rfl rfl rfl H1 ?_
  clear H1; intro a2 H2
  refine st_callg rfl z_call59 rfl rfl rfl rfl H2 (tbody t wf _) ?_
  clear H2; intro a3 wx3 H3
  refine plain (y_move rfl rfl) rfl rfl rfl H3 ?_
  clear H3; intro a4 H4
  refine plain (y_extract rfl rfl rfl) rfl rfl rfl H4 ?_
  clear H4; intro a5 H5
  refine plain (y_extract rfl rfl rfl) rfl rfl rfl H5 ?_
  clear H5; intro a6 H6
  refine plain (y_assign rfl rfl) rfl rfl rfl H6 ?_
  clear H6; intro a7 H7
  refine plain (y_assign rfl rfl) rfl rfl rfl H7 ?_
  clear H7; intro a8 H8
  refine fin ?_
  refine then_n ?_
  refine wp_seq ?_
  refine reg ?_
  refine plain (y_move rfl rfl) rfl rfl rfl H8 ?_
  clear H8; intro a9 H9
  refine plain (y_move rfl rfl) rfl rfl rfl H9 ?_
  clear H9; intro a10 H10
  refine plain (y_fieldB rfl z_field50_8 rfl (by first | (simp only [Nat.zero_add, Nat.add_zero, Nat.reduceAdd]; rfl) | rfl)) rfl rfl rfl H10 ?_
  clear H10; intro a11 H11
  refine plain (y_loadAB rfl z_agg28 z_size28 rfl (by repeat (first | exact Mh | apply Mt)) (q_ld_c8b32b32_8_32 (by assumption)) (q_len_b32 (by assumption))) rfl rfl rfl H11 ?_
  clear H11; intro a12 H12
  refine st_callg rfl z_call60 rfl rfl rfl rfl H12 (scheck who 2 hw (by decide) (Txs.body t).1 (by omega) t.hand whd (hG.frm H12.sep.frm hz)) ?_
  clear H12; intro a13 wx13 H13
  refine plain (y_eql rfl rfl rfl) rfl rfl rfl H13 ?_
  clear H13; intro a14 H14
  refine plain (y_assign rfl rfl) rfl rfl rfl H14 ?_
  clear H14; intro a15 H15
  refine fin ?_
  refine then_n ?_
  refine wp_ret ?_
  -- return 1
  refine ret1 rfl H15 rfl ?_
  exact ⟨_, _, rfl, ⟨[], rfl, rfl, rfl⟩, H15.sep⟩
theorem ltheirs (bT : Nat) (t : Txs.Tx) (wf : Txs.Tx.Wf t) (who : Int) (hw : Note.I64 who) {w : World} (hp : (It.blk bT 50 (Txs.Tx.cells t)).P w) (hG : Glob 0 Sha.K w) (hne : 0 ≠ bT) : Calls Tryd.prog 58 #[.int .i64 who, .pointer (some ⟨bT, 0, none⟩)] w (Gives (.bool (decide (Seal.check who 2 (Txs.body t).1 t.hand = 0))) [] w) := Post.still hp (ltheirs0 bT t wf who hw hp hG (by intro hm; exact absurd (List.mem_singleton.1 hm) hne))
set_option maxRecDepth 100000 in
set_option maxHeartbeats 4000000 in
theorem lcheck (len : Int) (L : List Lane.Held) (f : Int → Option Value) (hg : Lane.Good ⟨len, L⟩) (hT : Lane.Turns L f) (t : Txs.Tx) (wf : Txs.Tx.Wf t) (now : Int) (hnow : Note.I64 now) (b h u : Nat) {w : World} (hb : (It.blk b 101 (Lane.lc len h u)).P w) (hh : (It.mp h (Lane.hm L)).P w) (hu : (It.mp u f).P w) (hG : Glob 0 Sha.K w) : Calls Tryd.prog 27 #[.pointer (some ⟨b, 0, none⟩), .agg (Txs.Tx.cells t).toArray, .int .i64 now] w (Gives (.int .i64 (Lane.check ⟨len, L⟩ t now)) [] w) := by
  have whd := wf.hand
  have wtg := wf.tag
  have lz32 : (List.replicate 32 (0 : UInt8)).length = 32 := List.length_replicate
  have lz0 := wf.hand
  have lz1 := wf.tag
  refine enterL (args := [.pointer (some ⟨b, 0, none⟩), .agg (Txs.Tx.cells t).toArray, .int .i64 now]) Tryd.func27 rfl rfl (l := []) (Sep.refl _) ?_
  intro a0 H0
  refine wp_seq ?_
  refine reg ?_
  refine st_box rfl rfl (agg_cells _) rfl rfl rfl H0 ?_
  clear H0; intro b1 a1 wx1 H1
  refine plain (y_assign rfl rfl) rfl rfl rfl H1 ?_
  clear H1; intro a2 H2
  refine fin ?_
  refine then_n ?_
  refine wp_seq ?_
  refine wp_seq ?_
  refine reg ?_
  refine plain (y_move rfl rfl) rfl rfl rfl H2 ?_
  clear H2; intro a3 H3
  refine plain (y_peql rfl Tryd.underlying39 rfl rfl) rfl rfl rfl H3 ?_
  clear H3; intro a4 H4
  refine fin ?_
  refine then_n ?_
  refine cnd_f H4 rfl ?_
  refine wp_skip ?_
  refine then_n ?_
  refine wp_seq ?_
  refine wp_seq ?_
  refine reg ?_
  refine plain (y_loadAB rfl z_agg50 z_size50 rfl (by repeat (first | exact Mh | apply Mt)) (q_ld_c8b32b32_0_72 (by assumption) (by assumption)) (q_len_c8b32b32 (by assumption) (by assumption))) rfl rfl rfl H4 ?_
  clear H4; intro a6 H6
  refine st_callg rfl z_call57 rfl rfl rfl rfl H6 (tcheck t wf _) ?_
  clear H6; intro a7 wx7 H7
  refine plain (y_assign rfl rfl) rfl rfl rfl H7 ?_
  clear H7; intro a8 H8
  refine fin ?_
  refine then_n ?_
  refine wp_seq ?_
  refine reg ?_
  refine plain (y_move rfl rfl) rfl rfl rfl H8 ?_
  clear H8; intro a9 H9
  refine plain (y_neq rfl rfl rfl) rfl rfl rfl H9 ?_
  clear H9; intro a10 H10
  refine fin ?_
  refine then_n ?_
  refine cnd H10 rfl (fun hc11 => ?_) (fun hc11 => ?_) -- cond 2
  · skip
    try simp only [decide_eq_true_eq, decide_eq_false_iff_not, Bool.not_eq_true', Bool.not_eq_false', Bool.and_eq_true, Bool.not_eq_true, Bool.not_eq_false] at hc11
    have hc1 := hc11
    refine wp_seq ?_
    refine reg ?_
    refine plain (y_move rfl rfl) rfl rfl rfl H10 ?_
    clear H10; intro a12 H12
    refine plain (y_assign rfl rfl) rfl rfl rfl H12 ?_
    clear H12; intro a13 H13
    refine fin ?_
    refine then_n ?_
    refine wp_ret ?_
    refine then_r ?_
    -- return 1
    refine ret1 rfl H13 rfl ?_
    first | (have hz := Lane.chk_tx (l := ⟨len, L⟩) (now := now) hc1; exact ⟨_, [], rfl, ⟨by rw [hz], rfl⟩, H13.sep.sub (List.nil_sublist _)⟩) | (have hz := Lane.chk_lane (l := ⟨len, L⟩) (now := now) hc2 hl1; exact ⟨_, [], rfl, ⟨by rw [hz], rfl⟩, H13.sep.sub (List.nil_sublist _)⟩) | (have hz := Lane.chk_round (l := ⟨len, L⟩) (now := now) hc2 hl2 hr1; exact ⟨_, [], rfl, ⟨by rw [hz], rfl⟩, H13.sep.sub (List.nil_sublist _)⟩) | (have hz := Lane.chk_none (l := ⟨len, L⟩) (now := now) hc2 hl2 hr2 hn1; exact ⟨_, [], rfl, ⟨by rw [hz], rfl⟩, H13.sep.sub (List.nil_sublist _)⟩) | (have hz := Lane.chk_tag hg hc2 hl2 hr2 hn2 ht1; exact ⟨_, [], rfl, ⟨by rw [hz], rfl⟩, H13.sep.sub (List.nil_sublist _)⟩) | (have hz := Lane.chk_turn hg hc2 hl2 hr2 hn2 ht2 hu1; exact ⟨_, [], rfl, ⟨by rw [hz], rfl⟩, H13.sep.sub (List.nil_sublist _)⟩) | (have hz := Lane.chk_ok hg hc2 hl2 hr2 hn2 ht2 hu2; exact ⟨_, [], rfl, ⟨by rw [hz], rfl⟩, H13.sep.sub (List.nil_sublist _)⟩)
  · skip
    try simp only [decide_eq_true_eq, decide_eq_false_iff_not, Bool.not_eq_true', Bool.not_eq_false', Bool.and_eq_true, Bool.not_eq_true, Bool.not_eq_false] at hc11
    have hc2 := hc11
    refine wp_skip ?_
    refine then_n ?_
    refine wp_seq ?_
    refine reg ?_
    refine plain (y_fn rfl rfl rfl) rfl rfl rfl H10 ?_
    clear H10; intro a14 H14
    refine plain (y_assign rfl rfl) rfl rfl rfl H14 ?_
    clear H14; intro a15 H15
    refine fin ?_
    refine then_n ?_
    refine wp_seq ?_
    refine reg ?_
    refine plain (y_move rfl rfl) rfl rfl rfl H15 ?_
    clear H15; intro a16 H16
    refine plain (y_fieldB rfl z_field50_6 rfl (by first | (simp only [Nat.zero_add, Nat.add_zero, Nat.reduceAdd]; rfl) | rfl)) rfl rfl rfl H16 ?_
    clear H16; intro a17 H17
    refine plain (y_loadB rfl z_agg3 rfl (by repeat (first | exact Mh | apply Mt)) q_ix_c8b32b32_6) rfl rfl rfl H17 ?_
    clear H17; intro a18 H18
    refine st_callg rfl z_call23 rfl rfl rfl rfl H18 (lholder len L t.round b h u (H18.sep.keep hb) (H18.sep.keep hh)) ?_
    clear H18; intro a19 wx19 H19
    refine plain (y_move rfl rfl) rfl rfl rfl H19 ?_
    clear H19; intro a20 H20
    refine plain (y_extract rfl rfl rfl) rfl rfl rfl H20 ?_
    clear H20; intro a21 H21
    refine plain (y_extract rfl rfl rfl) rfl rfl rfl H21 ?_
    clear H21; intro a22 H22
    refine plain (y_assign rfl rfl) rfl rfl rfl H22 ?_
    clear H22; intro a23 H23
    refine plain (y_assign rfl rfl) rfl rfl rfl H23 ?_
    clear H23; intro a24 H24
    refine fin ?_
    refine then_n ?_
    refine wp_seq ?_
    refine wp_block ?_
    refine wp_seq ?_
    refine reg ?_
    refine plain (y_fieldB rfl z_field50_5 rfl (by first | (simp only [Nat.zero_add, Nat.add_zero, Nat.reduceAdd]; rfl) | rfl)) rfl rfl rfl H24 ?_
    clear H24; intro a25 H25
    refine plain (y_loadB rfl z_agg4 rfl (by repeat (first | exact Mh | apply Mt)) q_ix_c8b32b32_5) rfl rfl rfl H25 ?_
    clear H25; intro a26 H26
    refine plain ((by first | exact y_not_d rfl rfl | exact y_not rfl rfl)) rfl rfl rfl H26 ?_
    clear H26; intro a27 H27
    refine plain (y_assign rfl rfl) rfl rfl rfl H27 ?_
    clear H27; intro a28 H28
    refine fin ?_
    refine then_n ?_
    refine cnd H28 rfl (fun hc29 => ?_) (fun hc29 => ?_) -- cond 3
    · skip
      try simp only [decide_eq_true_eq, decide_eq_false_iff_not, Bool.not_eq_true', Bool.not_eq_false', Bool.and_eq_true, Bool.not_eq_true, Bool.not_eq_false] at hc29
      have hl1 : t.lane = false := by simpa using hc29
      refine wp_seq ?_
      refine reg ?_
      refine plain (y_assign rfl rfl) rfl rfl rfl H28 ?_
      clear H28; intro a30 H30
      refine fin ?_
      refine then_n ?_
      refine wp_ret ?_
      refine inb_r ?_
      refine then_r ?_
      -- return 2
      refine ret1 rfl H30 rfl ?_
      first | (have hz := Lane.chk_tx (l := ⟨len, L⟩) (now := now) hc1; exact ⟨_, [], rfl, ⟨by rw [hz], rfl⟩, H30.sep.sub (List.nil_sublist _)⟩) | (have hz := Lane.chk_lane (l := ⟨len, L⟩) (now := now) hc2 hl1; exact ⟨_, [], rfl, ⟨by rw [hz], rfl⟩, H30.sep.sub (List.nil_sublist _)⟩) | (have hz := Lane.chk_round (l := ⟨len, L⟩) (now := now) hc2 hl2 hr1; exact ⟨_, [], rfl, ⟨by rw [hz], rfl⟩, H30.sep.sub (List.nil_sublist _)⟩) | (have hz := Lane.chk_none (l := ⟨len, L⟩) (now := now) hc2 hl2 hr2 hn1; exact ⟨_, [], rfl, ⟨by rw [hz], rfl⟩, H30.sep.sub (List.nil_sublist _)⟩) | (have hz := Lane.chk_tag hg hc2 hl2 hr2 hn2 ht1; exact ⟨_, [], rfl, ⟨by rw [hz], rfl⟩, H30.sep.sub (List.nil_sublist _)⟩) | (have hz := Lane.chk_turn hg hc2 hl2 hr2 hn2 ht2 hu1; exact ⟨_, [], rfl, ⟨by rw [hz], rfl⟩, H30.sep.sub (List.nil_sublist _)⟩) | (have hz := Lane.chk_ok hg hc2 hl2 hr2 hn2 ht2 hu2; exact ⟨_, [], rfl, ⟨by rw [hz], rfl⟩, H30.sep.sub (List.nil_sublist _)⟩)
    · skip
      try simp only [decide_eq_true_eq, decide_eq_false_iff_not, Bool.not_eq_true', Bool.not_eq_false', Bool.and_eq_true, Bool.not_eq_true, Bool.not_eq_false] at hc29
      have hl2 : t.lane = true := by simpa using hc29
      refine wp_seq ?_
      refine qreg (by kernel_rfl) (by kernel_rfl) H28 ?_
      have F31 := H28.fr
      clear H28
      refine qplain (y_fieldB rfl z_field50_6 rfl (by first | (simp only [Nat.zero_add, Nat.add_zero, Nat.reduceAdd]; rfl) | rfl)) rfl rfl rfl F31 ?_
      clear F31; intro a32 H32
      refine qplain (y_loadB rfl z_agg3 rfl (by repeat (first | exact Mh | apply Mt)) q_ix_c8b32b32_6) rfl rfl rfl H32 ?_
      clear H32; intro a33 H33
      refine qplain (y_move rfl rfl) rfl rfl rfl H33 ?_
      clear H33; intro a34 H34
      refine qplain (y_move rfl rfl) rfl rfl rfl H34 ?_
      clear H34; intro a35 H35
      refine qcallg rfl z_call19 rfl rfl rfl rfl H35 (fun w hs => (lround len now hg.len.1 hnow b h u (hs.keep hb))) ?_
      clear H35; intro a36 H36
      refine qplain (y_neq rfl rfl rfl) rfl rfl rfl H36 ?_
      clear H36; intro a37 H37
      refine qplain (y_assign rfl rfl) rfl rfl rfl H37 ?_
      clear H37; intro a38 H38
      refine qfin H38 ?_
      clear H38; intro wx39 H39
      refine then_n ?_
      refine cnd H39 rfl (fun hc40 => ?_) (fun hc40 => ?_) -- cond 4
      · skip
        try simp only [decide_eq_true_eq, decide_eq_false_iff_not, Bool.not_eq_true', Bool.not_eq_false', Bool.and_eq_true, Bool.not_eq_true, Bool.not_eq_false] at hc40
        have hr1 := hc40
        refine wp_seq ?_
        refine reg ?_
        refine plain (y_assign rfl rfl) rfl rfl rfl H39 ?_
        clear H39; intro a41 H41
        refine fin ?_
        refine then_n ?_
        refine wp_ret ?_
        refine inb_r ?_
        refine then_r ?_
        -- return 3
        refine ret1 rfl H41 rfl ?_
        first | (have hz := Lane.chk_tx (l := ⟨len, L⟩) (now := now) hc1; exact ⟨_, [], rfl, ⟨by rw [hz], rfl⟩, H41.sep.sub (List.nil_sublist _)⟩) | (have hz := Lane.chk_lane (l := ⟨len, L⟩) (now := now) hc2 hl1; exact ⟨_, [], rfl, ⟨by rw [hz], rfl⟩, H41.sep.sub (List.nil_sublist _)⟩) | (have hz := Lane.chk_round (l := ⟨len, L⟩) (now := now) hc2 hl2 hr1; exact ⟨_, [], rfl, ⟨by rw [hz], rfl⟩, H41.sep.sub (List.nil_sublist _)⟩) | (have hz := Lane.chk_none (l := ⟨len, L⟩) (now := now) hc2 hl2 hr2 hn1; exact ⟨_, [], rfl, ⟨by rw [hz], rfl⟩, H41.sep.sub (List.nil_sublist _)⟩) | (have hz := Lane.chk_tag hg hc2 hl2 hr2 hn2 ht1; exact ⟨_, [], rfl, ⟨by rw [hz], rfl⟩, H41.sep.sub (List.nil_sublist _)⟩) | (have hz := Lane.chk_turn hg hc2 hl2 hr2 hn2 ht2 hu1; exact ⟨_, [], rfl, ⟨by rw [hz], rfl⟩, H41.sep.sub (List.nil_sublist _)⟩) | (have hz := Lane.chk_ok hg hc2 hl2 hr2 hn2 ht2 hu2; exact ⟨_, [], rfl, ⟨by rw [hz], rfl⟩, H41.sep.sub (List.nil_sublist _)⟩)
      · skip
        try simp only [decide_eq_true_eq, decide_eq_false_iff_not, Bool.not_eq_true', Bool.not_eq_false', Bool.and_eq_true, Bool.not_eq_true, Bool.not_eq_false] at hc40
        have hr2 := hc40
        refine wp_seq ?_
        refine reg ?_
        refine plain (y_move rfl rfl) rfl rfl rfl H39 ?_
        clear H39; intro a42 H42
        refine plain ((by first | exact y_not_d rfl rfl | exact y_not rfl rfl)) rfl rfl rfl H42 ?_
        clear H42; intro a43 H43
        refine plain (y_assign rfl rfl) rfl rfl rfl H43 ?_
        clear H43; intro a44 H44
        refine fin ?_
        refine then_n ?_
        refine cnd H44 rfl (fun hc45 => ?_) (fun hc45 => ?_) -- cond 5
        · skip
          try simp only [decide_eq_true_eq, decide_eq_false_iff_not, Bool.not_eq_true', Bool.not_eq_false', Bool.and_eq_true, Bool.not_eq_true, Bool.not_eq_false] at hc45
          have hn1 : (Lane.whoOf L t.round).2 = false := by simpa using hc45
          refine wp_seq ?_
          refine reg ?_
          refine plain (y_assign rfl rfl) rfl rfl rfl H44 ?_
          clear H44; intro a46 H46
          refine fin ?_
          refine then_n ?_
          refine wp_ret ?_
          refine inb_r ?_
          refine then_r ?_
          -- return 4
          refine ret1 rfl H46 rfl ?_
          first | (have hz := Lane.chk_tx (l := ⟨len, L⟩) (now := now) hc1; exact ⟨_, [], rfl, ⟨by rw [hz], rfl⟩, H46.sep.sub (List.nil_sublist _)⟩) | (have hz := Lane.chk_lane (l := ⟨len, L⟩) (now := now) hc2 hl1; exact ⟨_, [], rfl, ⟨by rw [hz], rfl⟩, H46.sep.sub (List.nil_sublist _)⟩) | (have hz := Lane.chk_round (l := ⟨len, L⟩) (now := now) hc2 hl2 hr1; exact ⟨_, [], rfl, ⟨by rw [hz], rfl⟩, H46.sep.sub (List.nil_sublist _)⟩) | (have hz := Lane.chk_none (l := ⟨len, L⟩) (now := now) hc2 hl2 hr2 hn1; exact ⟨_, [], rfl, ⟨by rw [hz], rfl⟩, H46.sep.sub (List.nil_sublist _)⟩) | (have hz := Lane.chk_tag hg hc2 hl2 hr2 hn2 ht1; exact ⟨_, [], rfl, ⟨by rw [hz], rfl⟩, H46.sep.sub (List.nil_sublist _)⟩) | (have hz := Lane.chk_turn hg hc2 hl2 hr2 hn2 ht2 hu1; exact ⟨_, [], rfl, ⟨by rw [hz], rfl⟩, H46.sep.sub (List.nil_sublist _)⟩) | (have hz := Lane.chk_ok hg hc2 hl2 hr2 hn2 ht2 hu2; exact ⟨_, [], rfl, ⟨by rw [hz], rfl⟩, H46.sep.sub (List.nil_sublist _)⟩)
        · skip
          try simp only [decide_eq_true_eq, decide_eq_false_iff_not, Bool.not_eq_true', Bool.not_eq_false', Bool.and_eq_true, Bool.not_eq_true, Bool.not_eq_false] at hc45
          have hn2 : (Lane.whoOf L t.round).2 = true := by simpa using hc45
          refine wp_seq ?_
          refine reg ?_
          refine plain (y_move rfl rfl) rfl rfl rfl H44 ?_
          clear H44; intro a47 H47
          refine plain (y_move rfl rfl) rfl rfl rfl H47 ?_
          clear H47; intro a48 H48
          refine st_callvg (enters_callv (all := [.int .i64 (Lane.whoOf L t.round).1, .pointer (some ⟨b1, 0, none⟩)]) rfl rfl z_call58 rfl rfl) rfl rfl rfl H48 (ltheirs b1 t wf (Lane.whoOf L t.round).1 (Lane.who64 hg t.round) (H48.sep.all _ (by repeat (first | exact Mh | apply Mt))) (hG.frm H48.sep.frm (by simp)) (fun e => by have hx := fps_new H48.sep (.cons (by repeat (first | exact Ph | apply Pt)) (.nil _) : Picks _ [It.blk b1 50 (Txs.Tx.cells t)] _) hG (by decide); rw [e] at hx; simp [fps, It.blk, It.obj] at hx)) ?_
          clear H48; intro a49 wx49 H49
          refine plain ((by first | exact y_not_d rfl rfl | exact y_not rfl rfl)) rfl rfl rfl H49 ?_
          clear H49; intro a50 H50
          refine plain (y_assign rfl rfl) rfl rfl rfl H50 ?_
          clear H50; intro a51 H51
          refine fin ?_
          refine then_n ?_
          refine cnd H51 rfl (fun hc52 => ?_) (fun hc52 => ?_) -- cond 6
          · skip
            try simp only [decide_eq_true_eq, decide_eq_false_iff_not, Bool.not_eq_true', Bool.not_eq_false', Bool.and_eq_true, Bool.not_eq_true, Bool.not_eq_false] at hc52
            have ht1 := hc52
            refine wp_seq ?_
            refine reg ?_
            refine plain (y_assign rfl rfl) rfl rfl rfl H51 ?_
            clear H51; intro a53 H53
            refine fin ?_
            refine then_n ?_
            refine wp_ret ?_
            refine inb_r ?_
            refine then_r ?_
            -- return 5
            refine ret1 rfl H53 rfl ?_
            first | (have hz := Lane.chk_tx (l := ⟨len, L⟩) (now := now) hc1; exact ⟨_, [], rfl, ⟨by rw [hz], rfl⟩, H53.sep.sub (List.nil_sublist _)⟩) | (have hz := Lane.chk_lane (l := ⟨len, L⟩) (now := now) hc2 hl1; exact ⟨_, [], rfl, ⟨by rw [hz], rfl⟩, H53.sep.sub (List.nil_sublist _)⟩) | (have hz := Lane.chk_round (l := ⟨len, L⟩) (now := now) hc2 hl2 hr1; exact ⟨_, [], rfl, ⟨by rw [hz], rfl⟩, H53.sep.sub (List.nil_sublist _)⟩) | (have hz := Lane.chk_none (l := ⟨len, L⟩) (now := now) hc2 hl2 hr2 hn1; exact ⟨_, [], rfl, ⟨by rw [hz], rfl⟩, H53.sep.sub (List.nil_sublist _)⟩) | (have hz := Lane.chk_tag hg hc2 hl2 hr2 hn2 ht1; exact ⟨_, [], rfl, ⟨by rw [hz], rfl⟩, H53.sep.sub (List.nil_sublist _)⟩) | (have hz := Lane.chk_turn hg hc2 hl2 hr2 hn2 ht2 hu1; exact ⟨_, [], rfl, ⟨by rw [hz], rfl⟩, H53.sep.sub (List.nil_sublist _)⟩) | (have hz := Lane.chk_ok hg hc2 hl2 hr2 hn2 ht2 hu2; exact ⟨_, [], rfl, ⟨by rw [hz], rfl⟩, H53.sep.sub (List.nil_sublist _)⟩)
          · skip
            try simp only [decide_eq_true_eq, decide_eq_false_iff_not, Bool.not_eq_true', Bool.not_eq_false', Bool.and_eq_true, Bool.not_eq_true, Bool.not_eq_false] at hc52
            have ht2 := Decidable.not_not.1 hc52
            refine wp_seq ?_
            refine qreg (by kernel_rfl) (by kernel_rfl) H51 ?_
            have F54 := H51.fr
            clear H51
            refine qplain (y_fieldB rfl z_field50_7 rfl (by first | (simp only [Nat.zero_add, Nat.add_zero, Nat.reduceAdd]; rfl) | rfl)) rfl rfl rfl F54 ?_
            clear F54; intro a55 H55
            refine qplain (y_loadB rfl z_agg3 rfl (by repeat (first | exact Mh | apply Mt)) q_ix_c8b32b32_7) rfl rfl rfl H55 ?_
            clear H55; intro a56 H56
            refine qplain (y_move rfl rfl) rfl rfl rfl H56 ?_
            clear H56; intro a57 H57
            refine qplain (y_fieldB rfl z_field50_6 rfl (by first | (simp only [Nat.zero_add, Nat.add_zero, Nat.reduceAdd]; rfl) | rfl)) rfl rfl rfl H57 ?_
            clear H57; intro a58 H58
            refine qplain (y_loadB rfl z_agg3 rfl (by repeat (first | exact Mh | apply Mt)) q_ix_c8b32b32_6) rfl rfl rfl H58 ?_
            clear H58; intro a59 H59
            refine qcallg rfl z_call25 rfl rfl rfl rfl H59 (fun w hs => (lturn len L f hT t.round b h u (hs.keep hb) (hs.keep hu))) ?_
            clear H59; intro a60 H60
            refine qplain (y_neq rfl rfl rfl) rfl rfl rfl H60 ?_
            clear H60; intro a61 H61
            refine qplain (y_assign rfl rfl) rfl rfl rfl H61 ?_
            clear H61; intro a62 H62
            refine qfin H62 ?_
            clear H62; intro wx63 H63
            refine then_n ?_
            refine cnd H63 rfl (fun hc64 => ?_) (fun hc64 => ?_) -- cond 7
            · skip
              try simp only [decide_eq_true_eq, decide_eq_false_iff_not, Bool.not_eq_true', Bool.not_eq_false', Bool.and_eq_true, Bool.not_eq_true, Bool.not_eq_false] at hc64
              have hu1 := hc64
              refine wp_seq ?_
              refine reg ?_
              refine plain (y_assign rfl rfl) rfl rfl rfl H63 ?_
              clear H63; intro a65 H65
              refine fin ?_
              refine then_n ?_
              refine wp_ret ?_
              refine inb_r ?_
              refine then_r ?_
              -- return 6
              refine ret1 rfl H65 rfl ?_
              first | (have hz := Lane.chk_tx (l := ⟨len, L⟩) (now := now) hc1; exact ⟨_, [], rfl, ⟨by rw [hz], rfl⟩, H65.sep.sub (List.nil_sublist _)⟩) | (have hz := Lane.chk_lane (l := ⟨len, L⟩) (now := now) hc2 hl1; exact ⟨_, [], rfl, ⟨by rw [hz], rfl⟩, H65.sep.sub (List.nil_sublist _)⟩) | (have hz := Lane.chk_round (l := ⟨len, L⟩) (now := now) hc2 hl2 hr1; exact ⟨_, [], rfl, ⟨by rw [hz], rfl⟩, H65.sep.sub (List.nil_sublist _)⟩) | (have hz := Lane.chk_none (l := ⟨len, L⟩) (now := now) hc2 hl2 hr2 hn1; exact ⟨_, [], rfl, ⟨by rw [hz], rfl⟩, H65.sep.sub (List.nil_sublist _)⟩) | (have hz := Lane.chk_tag hg hc2 hl2 hr2 hn2 ht1; exact ⟨_, [], rfl, ⟨by rw [hz], rfl⟩, H65.sep.sub (List.nil_sublist _)⟩) | (have hz := Lane.chk_turn hg hc2 hl2 hr2 hn2 ht2 hu1; exact ⟨_, [], rfl, ⟨by rw [hz], rfl⟩, H65.sep.sub (List.nil_sublist _)⟩) | (have hz := Lane.chk_ok hg hc2 hl2 hr2 hn2 ht2 hu2; exact ⟨_, [], rfl, ⟨by rw [hz], rfl⟩, H65.sep.sub (List.nil_sublist _)⟩)
            · skip
              try simp only [decide_eq_true_eq, decide_eq_false_iff_not, Bool.not_eq_true', Bool.not_eq_false', Bool.and_eq_true, Bool.not_eq_true, Bool.not_eq_false] at hc64
              have hu2 := hc64
              refine wp_skip ?_
              refine inb_n ?_
              refine then_n ?_
              refine wp_seq ?_
              refine reg ?_
              refine plain (y_assign rfl rfl) rfl rfl rfl H63 ?_
              clear H63; intro a66 H66
              refine fin ?_
              refine then_n ?_
              refine wp_ret ?_
              -- return 7
              refine ret1 rfl H66 rfl ?_
              first | (have hz := Lane.chk_tx (l := ⟨len, L⟩) (now := now) hc1; exact ⟨_, [], rfl, ⟨by rw [hz], rfl⟩, H66.sep.sub (List.nil_sublist _)⟩) | (have hz := Lane.chk_lane (l := ⟨len, L⟩) (now := now) hc2 hl1; exact ⟨_, [], rfl, ⟨by rw [hz], rfl⟩, H66.sep.sub (List.nil_sublist _)⟩) | (have hz := Lane.chk_round (l := ⟨len, L⟩) (now := now) hc2 hl2 hr1; exact ⟨_, [], rfl, ⟨by rw [hz], rfl⟩, H66.sep.sub (List.nil_sublist _)⟩) | (have hz := Lane.chk_none (l := ⟨len, L⟩) (now := now) hc2 hl2 hr2 hn1; exact ⟨_, [], rfl, ⟨by rw [hz], rfl⟩, H66.sep.sub (List.nil_sublist _)⟩) | (have hz := Lane.chk_tag hg hc2 hl2 hr2 hn2 ht1; exact ⟨_, [], rfl, ⟨by rw [hz], rfl⟩, H66.sep.sub (List.nil_sublist _)⟩) | (have hz := Lane.chk_turn hg hc2 hl2 hr2 hn2 ht2 hu1; exact ⟨_, [], rfl, ⟨by rw [hz], rfl⟩, H66.sep.sub (List.nil_sublist _)⟩) | (have hz := Lane.chk_ok hg hc2 hl2 hr2 hn2 ht2 hu2; exact ⟨_, [], rfl, ⟨by rw [hz], rfl⟩, H66.sep.sub (List.nil_sublist _)⟩)
set_option maxRecDepth 100000 in
set_option maxHeartbeats 1000000 in
theorem lcheckN (t : Txs.Tx) (wf : Txs.Tx.Wf t) (now : Int) (w : World) : Calls Tryd.prog 27 #[.pointer none, .agg (Txs.Tx.cells t).toArray, .int .i64 now] w (Gives (.int .i64 1) [] w) := by
  have lz32 : (List.replicate 32 (0 : UInt8)).length = 32 := List.length_replicate
  have lz0 := wf.hand
  have lz1 := wf.tag
  refine enterL (args := [.pointer none, .agg (Txs.Tx.cells t).toArray, .int .i64 now]) Tryd.func27 rfl rfl (l := []) (Sep.refl _) ?_
  intro a0 H0
  refine wp_seq ?_
  refine reg ?_
  refine st_box rfl rfl (agg_cells _) rfl rfl rfl H0 ?_
  clear H0; intro b1 a1 wx1 H1
  refine plain (y_assign rfl rfl) rfl rfl rfl H1 ?_
  clear H1; intro a2 H2
  refine fin ?_
  refine then_n ?_
  refine wp_seq ?_
  refine wp_seq ?_
  refine reg ?_
  refine plain (y_move rfl rfl) rfl rfl rfl H2 ?_
  clear H2; intro a3 H3
  refine plain (y_peql rfl Tryd.underlying39 rfl rfl) rfl rfl rfl H3 ?_
  clear H3; intro a4 H4
  refine fin ?_
  refine then_n ?_
  refine cnd_t H4 rfl ?_
  refine wp_seq ?_
  refine reg ?_
  refine plain (y_assign rfl rfl) rfl rfl rfl H4 ?_
  clear H4; intro a6 H6
  refine fin ?_
  refine then_n ?_
  refine wp_ret ?_
  refine then_r ?_
  -- return 1
  refine ret1 rfl H6 rfl ?_
  exact ⟨_, [], rfl, ⟨rfl, rfl⟩, H6.sep.sub (List.nil_sublist _)⟩
set_option maxRecDepth 100000 in
set_option maxHeartbeats 4000000 in
theorem ltake (len : Int) (L : List Lane.Held) (f : Int → Option Value) (hg : Lane.Good ⟨len, L⟩) (hT : Lane.Turns L f) (t : Txs.Tx) (wf : Txs.Tx.Wf t) (now : Int) (hnow : Note.I64 now) (b h u : Nat) {w : World} (hs : Sep (fps [It.blk b 101 (Lane.lc len h u), It.mp h (Lane.hm L), It.mp u f]) w w [It.blk b 101 (Lane.lc len h u), It.mp h (Lane.hm L), It.mp u f]) (hG : Glob 0 Sha.K w) (hz : 0 ∉ fps [It.blk b 101 (Lane.lc len h u), It.mp h (Lane.hm L), It.mp u f]) : Calls Tryd.prog 28 #[.pointer (some ⟨b, 0, none⟩), .agg (Txs.Tx.cells t).toArray, .int .i64 now] w (Post (fps [It.blk b 101 (Lane.lc len h u), It.mp h (Lane.hm L), It.mp u f]) w fun v l' => v = .int .i64 (Lane.take ⟨len, L⟩ t now).2 ∧ ∃ f', Lane.Turns (Lane.take ⟨len, L⟩ t now).1.L f' ∧ l' = [It.blk b 101 (Lane.lc len h u), It.mp h (Lane.hm (Lane.take ⟨len, L⟩ t now).1.L), It.mp u f']) := by
  have whd := wf.hand
  have wtg := wf.tag
  have lz32 : (List.replicate 32 (0 : UInt8)).length = 32 := List.length_replicate
  have lz0 := wf.hand
  have lz1 := wf.tag
  refine enterL (args := [.pointer (some ⟨b, 0, none⟩), .agg (Txs.Tx.cells t).toArray, .int .i64 now]) Tryd.func28 rfl rfl (l := [It.blk b 101 (Lane.lc len h u), It.mp h (Lane.hm L), It.mp u f]) hs ?_
  intro a0 H0
  refine wp_seq ?_
  refine reg ?_
  refine st_box rfl rfl (agg_cells _) rfl rfl rfl H0 ?_
  clear H0; intro b1 a1 wx1 H1
  refine plain (y_assign rfl rfl) rfl rfl rfl H1 ?_
  clear H1; intro a2 H2
  refine fin ?_
  refine then_n ?_
  refine wp_seq ?_
  refine reg ?_
  refine plain (y_move rfl rfl) rfl rfl rfl H2 ?_
  clear H2; intro a3 H3
  refine plain (y_loadAB rfl z_agg50 z_size50 rfl (by repeat (first | exact Mh | apply Mt)) (q_ld_c8b32b32_0_72 (by assumption) (by assumption)) (q_len_c8b32b32 (by assumption) (by assumption))) rfl rfl rfl H3 ?_
  clear H3; intro a4 H4
  refine plain (y_move rfl rfl) rfl rfl rfl H4 ?_
  clear H4; intro a5 H5
  refine st_callg rfl z_call27 rfl rfl rfl rfl H5 (lcheck len L f hg hT t wf now hnow b h u (H5.sep.all _ (by repeat (first | exact Mh | apply Mt))) (H5.sep.all _ (by repeat (first | exact Mh | apply Mt))) (H5.sep.all _ (by repeat (first | exact Mh | apply Mt))) (hG.frm H5.sep.frm hz)) ?_
  clear H5; intro a6 wx6 H6
  refine plain (y_assign rfl rfl) rfl rfl rfl H6 ?_
  clear H6; intro a7 H7
  refine fin ?_
  refine then_n ?_
  refine wp_seq ?_
  refine wp_seq ?_
  refine reg ?_
  refine plain (y_move rfl rfl) rfl rfl rfl H7 ?_
  clear H7; intro a8 H8
  refine plain (y_eql rfl rfl rfl) rfl rfl rfl H8 ?_
  clear H8; intro a9 H9
  refine fin ?_
  refine then_n ?_
  refine cnd H9 rfl (fun hc10 => ?_) (fun hc10 => ?_) -- cond 1
  · skip
    try simp only [decide_eq_true_eq, decide_eq_false_iff_not, Bool.not_eq_true', Bool.not_eq_false', Bool.and_eq_true, Bool.not_eq_true, Bool.not_eq_false] at hc10
    have hCK0 := congrArg (Value.int .i64) hc10
    obtain ⟨y, hy, hyt, hyb, hyx⟩ := Lane.take_is (l := ⟨len, L⟩) hc10
    refine hreg [It.blk b1 50 (Txs.Tx.cells t), It.blk b 101 (Lane.lc len h u), It.mp h (Lane.hm L)] (fun _ h => (h.sub (by first | exact S0 | exact S1 | repeat (first | exact S1 | exact S0 | apply S2 | apply S3)))) (by kernel_rfl) H9 ?_
    clear H9; intro wx11 H11
    refine htake 0 rfl (by kernel_rfl) (y_move rfl rfl) rfl rfl rfl (fun _ h => (h.sub (by first | exact S0 | exact S1 | repeat (first | exact S1 | exact S0 | apply S2 | apply S3)))) H11 ?_
    clear H11; intro a12 H12
    refine htake 1 rfl (by kernel_rfl) (y_nilCheck rfl rfl) rfl rfl rfl (fun _ h => (h.sub (by first | exact S0 | exact S1 | repeat (first | exact S1 | exact S0 | apply S2 | apply S3)))) H12 ?_
    clear H12; intro a13 H13
    refine htake 2 rfl (by kernel_rfl) (y_fieldB rfl z_field101_2 rfl (by first | (simp only [Nat.zero_add, Nat.add_zero, Nat.reduceAdd]; rfl) | rfl)) rfl rfl rfl (fun _ h => (h.sub (by first | exact S0 | exact S1 | repeat (first | exact S1 | exact S0 | apply S2 | apply S3)))) H13 ?_
    clear H13; intro a14 H14
    refine htake 3 rfl (by kernel_rfl) (y_loadB rfl z_agg99 rfl (by repeat (first | exact Mh | apply Mt)) q_ix_c3_2) rfl rfl rfl (fun _ h => (h.sub (by first | exact S0 | exact S1 | repeat (first | exact S1 | exact S0 | apply S2 | apply S3)))) H14 ?_
    clear H14; intro a15 H15
    refine htake 4 rfl (by kernel_rfl) (y_fieldB rfl z_field50_6 rfl (by first | (simp only [Nat.zero_add, Nat.add_zero, Nat.reduceAdd]; rfl) | rfl)) rfl rfl rfl (fun _ h => (h.sub (by first | exact S0 | exact S1 | repeat (first | exact S1 | exact S0 | apply S2 | apply S3)))) H15 ?_
    clear H15; intro a16 H16
    refine htake 5 rfl (by kernel_rfl) (y_loadB rfl z_agg3 rfl (by repeat (first | exact Mh | apply Mt)) q_ix_c8b32b32_6) rfl rfl rfl (fun _ h => (h.sub (by first | exact S0 | exact S1 | repeat (first | exact S1 | exact S0 | apply S2 | apply S3)))) H16 ?_
    clear H16; intro a17 H17
    refine hgo 6 rfl (by kernel_rfl) ?_
    refine plain (y_lookup rfl Tryd.underlying99 Tryd.underlying3 z_zval3 rfl rfl (by repeat (first | exact Mh | apply Mt))) rfl rfl rfl H17 ?_
    clear H17; intro a18 H18
    refine hfin (H18.sep.sub (by first | exact S0 | exact S1 | repeat (first | exact S1 | exact S0 | apply S2 | apply S3))) ?_
    replace H18 := H18.know (d := 20) rfl (hT t.round)
    rw [show Lane.turnOf L t.round = y.turn from hyt] at H18
    refine htake 7 rfl (by kernel_rfl) (y_add rfl rfl rfl (by first | exact w64 (by omega) (by omega) | rfl)) rfl rfl rfl (fun _ h => (h.sub (by first | exact S0 | exact S1 | repeat (first | exact S1 | exact S0 | apply S2 | apply S3)))) H18 ?_
    clear H18; intro a19 H19
    refine hgo 8 rfl (by kernel_rfl) ?_
    refine st_mapUpdate rfl Tryd.underlying99 Tryd.underlying3 rfl rfl rfl (by repeat (first | exact Uh | apply Ut)) rfl rfl H19 ?_
    clear H19; intro wx20 H20
    refine hfin (H20.sep.sub (by first | exact S0 | exact S1 | repeat (first | exact S1 | exact S0 | apply S2 | apply S3))) ?_
    refine hdone (by kernel_rfl) ?_
    refine then_n ?_
    refine wp_seq ?_
    refine reg ?_
    refine plain (y_move rfl rfl) rfl rfl rfl H20 ?_
    clear H20; intro a21 H21
    refine plain (y_assign rfl rfl) rfl rfl rfl H21 ?_
    clear H21; intro a22 H22
    refine fin ?_
    refine then_n ?_
    refine wp_ret ?_
    -- return 1
    refine ret1 rfl H22 rfl ?_
    first | (have hzz := hyx; rw [hyx]; exact ⟨_, _, rfl, ⟨hCK0, _, Lane.turns_take hy _ _ hT, by dsimp only; rw [Lane.hm_same hy]; rfl⟩, H22.sep.sub (List.Sublist.cons _ (List.Sublist.refl _))⟩) | (rw [Lane.take_no hno]; exact ⟨_, _, rfl, ⟨rfl, f, hT, rfl⟩, H22.sep.sub (List.Sublist.cons _ (List.Sublist.refl _))⟩)
  · skip
    try simp only [decide_eq_true_eq, decide_eq_false_iff_not, Bool.not_eq_true', Bool.not_eq_false', Bool.and_eq_true, Bool.not_eq_true, Bool.not_eq_false] at hc10
    have hno := hc10
    refine wp_skip ?_
    refine then_n ?_
    refine wp_seq ?_
    refine reg ?_
    refine plain (y_move rfl rfl) rfl rfl rfl H9 ?_
    clear H9; intro a23 H23
    refine plain (y_assign rfl rfl) rfl rfl rfl H23 ?_
    clear H23; intro a24 H24
    refine fin ?_
    refine then_n ?_
    refine wp_ret ?_
    -- return 2
    refine ret1 rfl H24 rfl ?_
    first | (have hzz := hyx; rw [hyx]; exact ⟨_, _, rfl, ⟨hCK0, _, Lane.turns_take hy _ _ hT, by dsimp only; rw [Lane.hm_same hy]; rfl⟩, H24.sep.sub (List.Sublist.cons _ (List.Sublist.refl _))⟩) | (rw [Lane.take_no hno]; exact ⟨_, _, rfl, ⟨rfl, f, hT, rfl⟩, H24.sep.sub (List.Sublist.cons _ (List.Sublist.refl _))⟩)
set_option maxRecDepth 100000 in
set_option maxHeartbeats 1000000 in
theorem ltakeN (t : Txs.Tx) (wf : Txs.Tx.Wf t) (now : Int) (w : World) : Calls Tryd.prog 28 #[.pointer none, .agg (Txs.Tx.cells t).toArray, .int .i64 now] w (Gives (.int .i64 1) [] w) := by
  have whd := wf.hand
  have wtg := wf.tag
  have lz32 : (List.replicate 32 (0 : UInt8)).length = 32 := List.length_replicate
  have lz0 := wf.hand
  have lz1 := wf.tag
  refine enterL (args := [.pointer none, .agg (Txs.Tx.cells t).toArray, .int .i64 now]) Tryd.func28 rfl rfl (l := []) (Sep.refl _) ?_
  intro a0 H0
  refine wp_seq ?_
  refine reg ?_
  refine st_box rfl rfl (agg_cells _) rfl rfl rfl H0 ?_
  clear H0; intro b1 a1 wx1 H1
  refine plain (y_assign rfl rfl) rfl rfl rfl H1 ?_
  clear H1; intro a2 H2
  refine fin ?_
  refine then_n ?_
  refine wp_seq ?_
  refine reg ?_
  refine plain (y_move rfl rfl) rfl rfl rfl H2 ?_
  clear H2; intro a3 H3
  refine plain (y_loadAB rfl z_agg50 z_size50 rfl (by repeat (first | exact Mh | apply Mt)) (q_ld_c8b32b32_0_72 (by assumption) (by assumption)) (q_len_c8b32b32 (by assumption) (by assumption))) rfl rfl rfl H3 ?_
  clear H3; intro a4 H4
  refine plain (y_move rfl rfl) rfl rfl rfl H4 ?_
  clear H4; intro a5 H5
  refine st_callg rfl z_call27 rfl rfl rfl rfl H5 (lcheckN t wf now _) ?_
  clear H5; intro a6 wx6 H6
  refine plain (y_assign rfl rfl) rfl rfl rfl H6 ?_
  clear H6; intro a7 H7
  refine fin ?_
  refine then_n ?_
  refine wp_seq ?_
  refine wp_seq ?_
  refine reg ?_
  refine plain (y_move rfl rfl) rfl rfl rfl H7 ?_
  clear H7; intro a8 H8
  refine plain (y_eql rfl rfl rfl) rfl rfl rfl H8 ?_
  clear H8; intro a9 H9
  refine fin ?_
  refine then_n ?_
  refine cnd_f H9 rfl ?_
  refine wp_skip ?_
  refine then_n ?_
  refine wp_seq ?_
  refine reg ?_
  refine plain (y_move rfl rfl) rfl rfl rfl H9 ?_
  clear H9; intro a11 H11
  refine plain (y_assign rfl rfl) rfl rfl rfl H11 ?_
  clear H11; intro a12 H12
  refine fin ?_
  refine then_n ?_
  refine wp_ret ?_
  -- return 1
  refine ret1 rfl H12 rfl ?_
  exact ⟨_, [], rfl, ⟨rfl, rfl⟩, H12.sep.sub (List.nil_sublist _)⟩

end Go.Proofs.YtaeahloenahelaaDoor.A_Ln3

set_option linter.unusedVariables false
set_option linter.unusedSimpArgs false
namespace Go.Proofs.YtaeahloenahelaaDoor.A_RBody
open Go.Sx Go.RowKit Go.Proofs.YtaeahloenahelaaDoor.A_Num Go.Proofs.YtaeahloenahelaaDoor.A_Tx

theorem z_call96 : callB Tryd.prog 96 = true := by kernel_rfl
theorem z_agg50 : aggB Tryd.prog 50 = some true := by kernel_rfl
theorem z_size50 : sizeB Tryd.prog 50 = some 72 := by kernel_rfl
theorem q_ld_c8b32b32_0_72 {a0 a1 a2 a3 a4 a5 a6 a7 : Value} {t8 t9 : List UInt8} (h8 : t8.length = 32) (h9 : t9.length = 32) : ((a0 :: a1 :: a2 :: a3 :: a4 :: a5 :: a6 :: a7 :: (t8.map u8 ++ (t9.map u8))).drop 0).take 72 = a0 :: a1 :: a2 :: a3 :: a4 :: a5 :: a6 :: a7 :: (t8.map u8 ++ (t9.map u8)) := (ld_a (len_c (n := 71) (len_c (n := 70) (len_c (n := 69) (len_c (n := 68) (len_c (n := 67) (len_c (n := 66) (len_c (n := 65) (len_c (n := 64) (len_b (k := 32) (n := 32) h8 (len_e (k := 32) h9)))))))))))
theorem q_len_c8b32b32 {a0 a1 a2 a3 a4 a5 a6 a7 : Value} {t8 t9 : List UInt8} (h8 : t8.length = 32) (h9 : t9.length = 32) : (a0 :: a1 :: a2 :: a3 :: a4 :: a5 :: a6 :: a7 :: (t8.map u8 ++ (t9.map u8))).length = 72 := (len_c (n := 71) (len_c (n := 70) (len_c (n := 69) (len_c (n := 68) (len_c (n := 67) (len_c (n := 66) (len_c (n := 65) (len_c (n := 64) (len_b (k := 32) (n := 32) h8 (len_e (k := 32) h9))))))))))
theorem z_call98 : callB Tryd.prog 98 = true := by kernel_rfl
theorem z_field50_0 : fieldB Tryd.prog 50 0 = some 0 := by kernel_rfl
theorem z_agg3 : aggB Tryd.prog 3 = some false := by kernel_rfl
theorem q_ix_c8b32b32_0 {a0 a1 a2 a3 a4 a5 a6 a7 : Value} {t8 t9 : List UInt8} : (a0 :: a1 :: a2 :: a3 :: a4 :: a5 :: a6 :: a7 :: (t8.map u8 ++ (t9.map u8)))[0]? = some a0 := ix_0
theorem z_field50_1 : fieldB Tryd.prog 50 1 = some 1 := by kernel_rfl
theorem q_ix_c8b32b32_1 {a0 a1 a2 a3 a4 a5 a6 a7 : Value} {t8 t9 : List UInt8} : (a0 :: a1 :: a2 :: a3 :: a4 :: a5 :: a6 :: a7 :: (t8.map u8 ++ (t9.map u8)))[1]? = some a1 := (ix_c (o := 0) ix_0)
theorem z_field50_2 : fieldB Tryd.prog 50 2 = some 2 := by kernel_rfl
theorem q_ix_c8b32b32_2 {a0 a1 a2 a3 a4 a5 a6 a7 : Value} {t8 t9 : List UInt8} : (a0 :: a1 :: a2 :: a3 :: a4 :: a5 :: a6 :: a7 :: (t8.map u8 ++ (t9.map u8)))[2]? = some a2 := (ix_c (o := 1) (ix_c (o := 0) ix_0))
theorem z_field50_3 : fieldB Tryd.prog 50 3 = some 3 := by kernel_rfl
theorem q_ix_c8b32b32_3 {a0 a1 a2 a3 a4 a5 a6 a7 : Value} {t8 t9 : List UInt8} : (a0 :: a1 :: a2 :: a3 :: a4 :: a5 :: a6 :: a7 :: (t8.map u8 ++ (t9.map u8)))[3]? = some a3 := (ix_c (o := 2) (ix_c (o := 1) (ix_c (o := 0) ix_0)))
theorem z_field50_4 : fieldB Tryd.prog 50 4 = some 4 := by kernel_rfl
theorem z_agg9 : aggB Tryd.prog 9 = some false := by kernel_rfl
theorem q_ix_c8b32b32_4 {a0 a1 a2 a3 a4 a5 a6 a7 : Value} {t8 t9 : List UInt8} : (a0 :: a1 :: a2 :: a3 :: a4 :: a5 :: a6 :: a7 :: (t8.map u8 ++ (t9.map u8)))[4]? = some a4 := (ix_c (o := 3) (ix_c (o := 2) (ix_c (o := 1) (ix_c (o := 0) ix_0))))
theorem z_call99 : callB Tryd.prog 99 = true := by kernel_rfl
theorem z_size9 : sizeB Tryd.prog 9 = some 1 := by kernel_rfl
theorem z_zero9 : zeroL Tryd.prog 9 = some ([.string ⟨#[]⟩]) := by kernel_rfl
theorem z_field50_5 : fieldB Tryd.prog 50 5 = some 5 := by kernel_rfl
theorem z_agg4 : aggB Tryd.prog 4 = some false := by kernel_rfl
theorem q_ix_c8b32b32_5 {a0 a1 a2 a3 a4 a5 a6 a7 : Value} {t8 t9 : List UInt8} : (a0 :: a1 :: a2 :: a3 :: a4 :: a5 :: a6 :: a7 :: (t8.map u8 ++ (t9.map u8)))[5]? = some a5 := (ix_c (o := 4) (ix_c (o := 3) (ix_c (o := 2) (ix_c (o := 1) (ix_c (o := 0) ix_0)))))
theorem z_field50_6 : fieldB Tryd.prog 50 6 = some 6 := by kernel_rfl
theorem q_ix_c8b32b32_6 {a0 a1 a2 a3 a4 a5 a6 a7 : Value} {t8 t9 : List UInt8} : (a0 :: a1 :: a2 :: a3 :: a4 :: a5 :: a6 :: a7 :: (t8.map u8 ++ (t9.map u8)))[6]? = some a6 := (ix_c (o := 5) (ix_c (o := 4) (ix_c (o := 3) (ix_c (o := 2) (ix_c (o := 1) (ix_c (o := 0) ix_0))))))
theorem z_field50_7 : fieldB Tryd.prog 50 7 = some 7 := by kernel_rfl
theorem q_ix_c8b32b32_7 {a0 a1 a2 a3 a4 a5 a6 a7 : Value} {t8 t9 : List UInt8} : (a0 :: a1 :: a2 :: a3 :: a4 :: a5 :: a6 :: a7 :: (t8.map u8 ++ (t9.map u8)))[7]? = some a7 := (ix_c (o := 6) (ix_c (o := 5) (ix_c (o := 4) (ix_c (o := 3) (ix_c (o := 2) (ix_c (o := 1) (ix_c (o := 0) ix_0)))))))
theorem z_slice122 : sliceB Tryd.prog 122 = some (9, 1, 16) := by kernel_rfl
theorem z_notint122 : notIntB Tryd.prog 122 = true := by kernel_rfl
theorem z_call95 : callB Tryd.prog 95 = true := by kernel_rfl

set_option maxRecDepth 100000 in
set_option maxHeartbeats 1000000 in
theorem rnum4 (n : Int) (hn : n ≤ 9223372036854775807) (w : World) : Calls Tryd.prog 99 #[.int .i64 n] w (Gives (str (Note.num n)) [] w) := by
  have lz32 : (List.replicate 32 (0 : UInt8)).length = 32 := List.length_replicate
  refine enterL (args := [.int .i64 n]) Tryd.func99 rfl rfl (l := []) (Sep.refl _) ?_
  intro a0 H0
  refine wp_seq ?_
  refine reg ?_
  refine plain (y_assign rfl rfl) rfl rfl rfl H0 ?_
  clear H0; intro a1 H1
  refine fin ?_
  refine then_n ?_
  refine wp_seq ?_
  refine reg ?_
  refine plain (y_move rfl rfl) rfl rfl rfl H1 ?_
  clear H1; intro a2 H2
  refine st_callg rfl z_call96 rfl rfl rfl rfl H2 (numR n hn _) ?_
  clear H2; intro a3 wx3 H3
  refine plain (y_move rfl rfl) rfl rfl rfl H3 ?_
  clear H3; intro a4 H4
  refine plain (y_extract rfl rfl rfl) rfl rfl rfl H4 ?_
  clear H4; intro a5 H5
  refine plain (y_extract rfl rfl rfl) rfl rfl rfl H5 ?_
  clear H5; intro a6 H6
  refine plain (y_assign rfl rfl) rfl rfl rfl H6 ?_
  clear H6; intro a7 H7
  refine plain (y_assign rfl rfl) rfl rfl rfl H7 ?_
  clear H7; intro a8 H8
  refine fin ?_
  refine then_n ?_
  refine wp_seq ?_
  refine reg ?_
  refine plain (y_move rfl rfl) rfl rfl rfl H8 ?_
  clear H8; intro a9 H9
  refine plain (y_assign rfl rfl) rfl rfl rfl H9 ?_
  clear H9; intro a10 H10
  refine fin ?_
  refine then_n ?_
  refine wp_ret ?_
  -- return 1
  refine ret1 rfl H10 rfl ?_
  exact ⟨_, [], rfl, ⟨rfl, rfl⟩, H10.sep.sub (List.nil_sublist _)⟩
set_option maxRecDepth 100000 in
set_option maxHeartbeats 4000000 in
theorem rtbody (t : Txs.Tx) (wf : Txs.Tx.Wf t) (w : World) : Calls Tryd.prog 77 #[.agg (Txs.Tx.cells t).toArray] w (Gives (.tuple #[str (Txs.body t).1, .int .i64 (Txs.body t).2]) [] w) := by
  have whd := wf.hand
  have wtg := wf.tag
  have lz32 : (List.replicate 32 (0 : UInt8)).length = 32 := List.length_replicate
  have lz0 := wf.hand
  have lz1 := wf.tag
  refine enterL (args := [.agg (Txs.Tx.cells t).toArray]) Tryd.func77 rfl rfl (l := []) (Sep.refl _) ?_
  intro a0 H0
  refine wp_seq ?_
  refine reg ?_
  refine st_box rfl rfl (agg_cells _) rfl rfl rfl H0 ?_
  clear H0; intro b1 a1 wx1 H1
  refine plain (y_assign rfl rfl) rfl rfl rfl H1 ?_
  clear H1; intro a2 H2
  refine plain (y_assign rfl rfl) rfl rfl rfl H2 ?_
  clear H2; intro a3 H3
  refine fin ?_
  refine then_n ?_
  refine wp_seq ?_
  refine reg ?_
  refine plain (y_loadAB rfl z_agg50 z_size50 rfl (by repeat (first | exact Mh | apply Mt)) (q_ld_c8b32b32_0_72 (by assumption) (by assumption)) (q_len_c8b32b32 (by assumption) (by assumption))) rfl rfl rfl H3 ?_
  clear H3; intro a4 H4
  refine st_callg rfl z_call98 rfl rfl rfl rfl H4 (rtcheck t wf _) ?_
  clear H4; intro a5 wx5 H5
  refine plain (y_assign rfl rfl) rfl rfl rfl H5 ?_
  clear H5; intro a6 H6
  refine fin ?_
  refine then_n ?_
  refine wp_seq ?_
  refine wp_seq ?_
  refine reg ?_
  refine plain (y_move rfl rfl) rfl rfl rfl H6 ?_
  clear H6; intro a7 H7
  refine plain (y_neq rfl rfl rfl) rfl rfl rfl H7 ?_
  clear H7; intro a8 H8
  refine fin ?_
  refine then_n ?_
  refine cnd H8 rfl (fun hc9 => ?_) (fun hc9 => ?_) -- cond 1
  · skip
    try simp only [decide_eq_true_eq, decide_eq_false_iff_not, Bool.not_eq_true', Bool.not_eq_false', Bool.and_eq_true, Bool.not_eq_true, Bool.not_eq_false] at hc9
    have hbad0 := hc9
    refine wp_seq ?_
    refine reg ?_
    refine plain (y_move rfl rfl) rfl rfl rfl H8 ?_
    clear H8; intro a10 H10
    refine plain (y_assign rfl rfl) rfl rfl rfl H10 ?_
    clear H10; intro a11 H11
    refine plain (y_assign rfl rfl) rfl rfl rfl H11 ?_
    clear H11; intro a12 H12
    refine fin ?_
    refine then_n ?_
    refine wp_ret ?_
    refine then_r ?_
    -- return 1
    refine ret2 rfl H12 rfl rfl ?_
    first | (have hbad := hbad0; exact ⟨_, [], rfl, ⟨by rw [Txs.body_bad hbad], rfl⟩, H12.sep.sub (List.nil_sublist _)⟩) | exact ⟨_, [], rfl, ⟨by rw [Txs.body_yes hgood], rfl⟩, H12.sep.sub (List.nil_sublist _)⟩
  · skip
    try simp only [decide_eq_true_eq, decide_eq_false_iff_not, Bool.not_eq_true', Bool.not_eq_false', Bool.and_eq_true, Bool.not_eq_true, Bool.not_eq_false] at hc9
    have hgood := hc9
    refine wp_skip ?_
    refine then_n ?_
    refine wp_seq ?_
    refine hreg _ (fun _ h => h) (by kernel_rfl) H8 ?_
    clear H8; intro wx13 H13
    refine htake 0 rfl (by kernel_rfl) (y_fieldB rfl z_field50_0 rfl (by first | (simp only [Nat.zero_add, Nat.add_zero, Nat.reduceAdd]; rfl) | rfl)) rfl rfl rfl (fun _ h => (h.sub (by first | exact S0 | exact S1 | repeat (first | exact S1 | exact S0 | apply S2 | apply S3)))) H13 ?_
    clear H13; intro a14 H14
    refine htake 1 rfl (by kernel_rfl) (y_loadB rfl z_agg3 rfl (by repeat (first | exact Mh | apply Mt)) q_ix_c8b32b32_0) rfl rfl rfl (fun _ h => (h.sub (by first | exact S0 | exact S1 | repeat (first | exact S1 | exact S0 | apply S2 | apply S3)))) H14 ?_
    clear H14; intro a15 H15
    refine htake 3 rfl (by kernel_rfl) (y_fieldB rfl z_field50_1 rfl (by first | (simp only [Nat.zero_add, Nat.add_zero, Nat.reduceAdd]; rfl) | rfl)) rfl rfl rfl (fun _ h => (h.sub (by first | exact S0 | exact S1 | repeat (first | exact S1 | exact S0 | apply S2 | apply S3)))) H15 ?_
    clear H15; intro a16 H16
    refine htake 4 rfl (by kernel_rfl) (y_loadB rfl z_agg3 rfl (by repeat (first | exact Mh | apply Mt)) q_ix_c8b32b32_1) rfl rfl rfl (fun _ h => (h.sub (by first | exact S0 | exact S1 | repeat (first | exact S1 | exact S0 | apply S2 | apply S3)))) H16 ?_
    clear H16; intro a17 H17
    refine htake 6 rfl (by kernel_rfl) (y_fieldB rfl z_field50_2 rfl (by first | (simp only [Nat.zero_add, Nat.add_zero, Nat.reduceAdd]; rfl) | rfl)) rfl rfl rfl (fun _ h => (h.sub (by first | exact S0 | exact S1 | repeat (first | exact S1 | exact S0 | apply S2 | apply S3)))) H17 ?_
    clear H17; intro a18 H18
    refine htake 7 rfl (by kernel_rfl) (y_loadB rfl z_agg3 rfl (by repeat (first | exact Mh | apply Mt)) q_ix_c8b32b32_2) rfl rfl rfl (fun _ h => (h.sub (by first | exact S0 | exact S1 | repeat (first | exact S1 | exact S0 | apply S2 | apply S3)))) H18 ?_
    clear H18; intro a19 H19
    refine htake 9 rfl (by kernel_rfl) (y_fieldB rfl z_field50_3 rfl (by first | (simp only [Nat.zero_add, Nat.add_zero, Nat.reduceAdd]; rfl) | rfl)) rfl rfl rfl (fun _ h => (h.sub (by first | exact S0 | exact S1 | repeat (first | exact S1 | exact S0 | apply S2 | apply S3)))) H19 ?_
    clear H19; intro a20 H20
    refine htake 10 rfl (by kernel_rfl) (y_loadB rfl z_agg3 rfl (by repeat (first | exact Mh | apply Mt)) q_ix_c8b32b32_3) rfl rfl rfl (fun _ h => (h.sub (by first | exact S0 | exact S1 | repeat (first | exact S1 | exact S0 | apply S2 | apply S3)))) H20 ?_
    clear H20; intro a21 H21
    refine htake 12 rfl (by kernel_rfl) (y_fieldB rfl z_field50_4 rfl (by first | (simp only [Nat.zero_add, Nat.add_zero, Nat.reduceAdd]; rfl) | rfl)) rfl rfl rfl (fun _ h => (h.sub (by first | exact S0 | exact S1 | repeat (first | exact S1 | exact S0 | apply S2 | apply S3)))) H21 ?_
    clear H21; intro a22 H22
    refine htake 13 rfl (by kernel_rfl) (y_loadB rfl z_agg9 rfl (by repeat (first | exact Mh | apply Mt)) q_ix_c8b32b32_4) rfl rfl rfl (fun _ h => (h.sub (by first | exact S0 | exact S1 | repeat (first | exact S1 | exact S0 | apply S2 | apply S3)))) H22 ?_
    clear H22; intro a23 H23
    refine hgo 2 rfl (by kernel_rfl) ?_
    refine st_callg rfl z_call99 rfl rfl rfl rfl H23 (rnum4 t.src wf.src.2 _) ?_
    clear H23; intro a24 wx24 H24
    refine hfin (H24.sep.sub (by first | exact S0 | exact S1 | repeat (first | exact S1 | exact S0 | apply S2 | apply S3))) ?_
    refine hgo 5 rfl (by kernel_rfl) ?_
    refine st_callg rfl z_call99 rfl rfl rfl rfl H24 (rnum4 t.nonce wf.nonce.2 _) ?_
    clear H24; intro a25 wx25 H25
    refine hfin (H25.sep.sub (by first | exact S0 | exact S1 | repeat (first | exact S1 | exact S0 | apply S2 | apply S3))) ?_
    refine hgo 8 rfl (by kernel_rfl) ?_
    refine st_callg rfl z_call99 rfl rfl rfl rfl H25 (rnum4 t.fee wf.fee.2 _) ?_
    clear H25; intro a26 wx26 H26
    refine hfin (H26.sep.sub (by first | exact S0 | exact S1 | repeat (first | exact S1 | exact S0 | apply S2 | apply S3))) ?_
    refine hgo 11 rfl (by kernel_rfl) ?_
    refine st_callg rfl z_call99 rfl rfl rfl rfl H26 (rnum4 t.dst wf.dst.2 _) ?_
    clear H26; intro a27 wx27 H27
    refine hfin (H27.sep.sub (by first | exact S0 | exact S1 | repeat (first | exact S1 | exact S0 | apply S2 | apply S3))) ?_
    refine hgo 14 rfl (by kernel_rfl) ?_
    refine st_buildSlice1 (xs := [.tmp 13, .tmp 16, .tmp 19, .tmp 22, .tmp 24]) rfl Tryd.underlying122 z_size9 z_zero9 rfl rfl rfl rfl rfl rfl rfl rfl rfl H27 ?_
    clear H27; intro b28 a28 wx28 H28
    refine hfin (H28.sep.sub (by first | exact S0 | exact S1 | repeat (first | exact S1 | exact S0 | apply S2 | apply S3))) ?_
    refine htake 15 rfl (by kernel_rfl) (y_assign rfl rfl) rfl rfl rfl (fun _ h => (h.sub (by first | exact S0 | exact S1 | repeat (first | exact S1 | exact S0 | apply S2 | apply S3)))) H28 ?_
    clear H28; intro a29 H29
    refine hdone (by kernel_rfl) ?_
    refine then_n ?_
    refine wp_seq ?_
    refine wp_seq ?_
    refine reg ?_
    refine plain (y_fieldB rfl z_field50_5 rfl (by first | (simp only [Nat.zero_add, Nat.add_zero, Nat.reduceAdd]; rfl) | rfl)) rfl rfl rfl H29 ?_
    clear H29; intro a30 H30
    refine plain (y_loadB rfl z_agg4 rfl (by repeat (first | exact Mh | apply Mt)) q_ix_c8b32b32_5) rfl rfl rfl H30 ?_
    clear H30; intro a31 H31
    refine fin ?_
    refine then_n ?_
    refine cnd H31 rfl (fun hc32 => ?_) (fun hc32 => ?_) -- cond 2
    · skip
      try simp only [decide_eq_true_eq, decide_eq_false_iff_not, Bool.not_eq_true', Bool.not_eq_false', Bool.and_eq_true, Bool.not_eq_true, Bool.not_eq_false] at hc32
      have hF := Txs.fields_yes hc32
      refine hreg [It.blk b1 50 (Txs.Tx.cells t)] (fun _ h => (h.sub (by first | exact S0 | exact S1 | repeat (first | exact S1 | exact S0 | apply S2 | apply S3)))) (by kernel_rfl) H31 ?_
      clear H31; intro wx33 H33
      refine htake 0 rfl (by kernel_rfl) (y_move rfl rfl) rfl rfl rfl (fun _ h => (h.sub (by first | exact S0 | exact S1 | repeat (first | exact S1 | exact S0 | apply S2 | apply S3)))) H33 ?_
      clear H33; intro a34 H34
      refine htake 1 rfl (by kernel_rfl) (y_fieldB rfl z_field50_6 rfl (by first | (simp only [Nat.zero_add, Nat.add_zero, Nat.reduceAdd]; rfl) | rfl)) rfl rfl rfl (fun _ h => (h.sub (by first | exact S0 | exact S1 | repeat (first | exact S1 | exact S0 | apply S2 | apply S3)))) H34 ?_
      clear H34; intro a35 H35
      refine htake 2 rfl (by kernel_rfl) (y_loadB rfl z_agg3 rfl (by repeat (first | exact Mh | apply Mt)) q_ix_c8b32b32_6) rfl rfl rfl (fun _ h => (h.sub (by first | exact S0 | exact S1 | repeat (first | exact S1 | exact S0 | apply S2 | apply S3)))) H35 ?_
      clear H35; intro a36 H36
      refine htake 4 rfl (by kernel_rfl) (y_fieldB rfl z_field50_7 rfl (by first | (simp only [Nat.zero_add, Nat.add_zero, Nat.reduceAdd]; rfl) | rfl)) rfl rfl rfl (fun _ h => (h.sub (by first | exact S0 | exact S1 | repeat (first | exact S1 | exact S0 | apply S2 | apply S3)))) H36 ?_
      clear H36; intro a37 H37
      refine htake 5 rfl (by kernel_rfl) (y_loadB rfl z_agg3 rfl (by repeat (first | exact Mh | apply Mt)) q_ix_c8b32b32_7) rfl rfl rfl (fun _ h => (h.sub (by first | exact S0 | exact S1 | repeat (first | exact S1 | exact S0 | apply S2 | apply S3)))) H37 ?_
      clear H37; intro a38 H38
      refine hgo 3 rfl (by kernel_rfl) ?_
      refine st_callg rfl z_call99 rfl rfl rfl rfl H38 (rnum4 t.round wf.round.2 _) ?_
      clear H38; intro a39 wx39 H39
      refine hfin (H39.sep.sub (by first | exact S0 | exact S1 | repeat (first | exact S1 | exact S0 | apply S2 | apply S3))) ?_
      refine hgo 6 rfl (by kernel_rfl) ?_
      refine st_callg rfl z_call99 rfl rfl rfl rfl H39 (rnum4 t.turn wf.turn.2 _) ?_
      clear H39; intro a40 wx40 H40
      refine hfin (H40.sep.sub (by first | exact S0 | exact S1 | repeat (first | exact S1 | exact S0 | apply S2 | apply S3))) ?_
      refine hgo 7 rfl (by kernel_rfl) ?_
      refine st_buildSlice1 (xs := [.tmp 31, .tmp 34]) rfl Tryd.underlying122 z_size9 z_zero9 rfl rfl rfl rfl rfl rfl rfl rfl rfl H40 ?_
      clear H40; intro b41 a41 wx41 H41
      refine hfin (H41.sep.sub (by first | exact S0 | exact S1 | repeat (first | exact S1 | exact S0 | apply S2 | apply S3))) ?_
      refine hgo 8 rfl (by kernel_rfl) ?_
      replace H41 := H41.asRow (b := b28) (size := 1) (m := 5) (by repeat (first | exact Uh | apply Ut)) rfl (by unfold maxLen; omega)
      refine st_append rfl z_slice122 z_notint122 rfl rfl (fun _ => (by repeat (first | exact Uh | apply Ut))) (fun w hs => Src.slice ((rd_blkA (by repeat (first | exact Mh | apply Mt))) w hs) rfl (by simp [Value.oneCell'])) (by unfold maxLen at *; first | omega | (simp only [List.length_cons, List.length_nil, List.length_append, List.length_map]; omega)) (by omega) rfl rfl rfl H41 ?_
      clear H41; intro v42 a42 wx42 hnil42 H42
      obtain ⟨Ar42, cr42, hvr42, hRr42, hmr42⟩ := row_shape (v := v42) H42.sep (by repeat (first | exact Mh | apply Mt))
      subst hvr42
      refine hfin (H42.sep.sub (by first | exact S0 | exact S1 | repeat (first | exact S1 | exact S0 | apply S2 | apply S3))) ?_
      refine htake 9 rfl (by kernel_rfl) (y_assign rfl rfl) rfl rfl rfl (fun _ h => (h.sub (by first | exact S0 | exact S1 | repeat (first | exact S1 | exact S0 | apply S2 | apply S3)))) H42 ?_
      clear H42; intro a43 H43
      refine hdone (by kernel_rfl) ?_
      refine then_n ?_
      refine wp_seq ?_
      refine reg ?_
      refine plain (y_move rfl rfl) rfl rfl rfl H43 ?_
      clear H43; intro a44 H44
      refine st_callg rfl z_call95 rfl rfl rfl rfl H44 (lstR (Txs.fields t) _ _ _ (by rw [hF]; rfl) (by rw [hF]; first | exact Rd.ofSep (rd_row (by repeat (first | exact Mh | apply Mt))) H44.sep | exact Rd.ofSep (rd_blkA (by repeat (first | exact Mh | apply Mt))) H44.sep) (by rw [hF]; simp [Txs.F4])) ?_
      clear H44; intro a45 wx45 H45
      refine plain (y_extract rfl rfl rfl) rfl rfl rfl H45 ?_
      clear H45; intro a46 H46
      refine plain (y_extract rfl rfl rfl) rfl rfl rfl H46 ?_
      clear H46; intro a47 H47
      refine plain (y_assign rfl rfl) rfl rfl rfl H47 ?_
      clear H47; intro a48 H48
      refine plain (y_assign rfl rfl) rfl rfl rfl H48 ?_
      clear H48; intro a49 H49
      refine fin ?_
      refine then_n ?_
      refine wp_ret ?_
      -- return 2
      refine ret2 rfl H49 rfl rfl ?_
      first | (have hbad := hbad0; exact ⟨_, [], rfl, ⟨by rw [Txs.body_bad hbad], rfl⟩, H49.sep.sub (List.nil_sublist _)⟩) | exact ⟨_, [], rfl, ⟨by rw [Txs.body_yes hgood], rfl⟩, H49.sep.sub (List.nil_sublist _)⟩
    · skip
      try simp only [decide_eq_true_eq, decide_eq_false_iff_not, Bool.not_eq_true', Bool.not_eq_false', Bool.and_eq_true, Bool.not_eq_true, Bool.not_eq_false] at hc32
      have hF := Txs.fields_no hc32
      refine wp_skip ?_
      refine then_n ?_
      refine wp_seq ?_
      refine reg ?_
      refine plain (y_move rfl rfl) rfl rfl rfl H31 ?_
      clear H31; intro a50 H50
      refine st_callg rfl z_call95 rfl rfl rfl rfl H50 (lstR (Txs.fields t) _ _ _ (by rw [hF]; rfl) (by rw [hF]; first | exact Rd.ofSep (rd_row (by repeat (first | exact Mh | apply Mt))) H50.sep | exact Rd.ofSep (rd_blkA (by repeat (first | exact Mh | apply Mt))) H50.sep) (by rw [hF]; simp [Txs.F4])) ?_
      clear H50; intro a51 wx51 H51
      refine plain (y_extract rfl rfl rfl) rfl rfl rfl H51 ?_
      clear H51; intro a52 H52
      refine plain (y_extract rfl rfl rfl) rfl rfl rfl H52 ?_
      clear H52; intro a53 H53
      refine plain (y_assign rfl rfl) rfl rfl rfl H53 ?_
      clear H53; intro a54 H54
      refine plain (y_assign rfl rfl) rfl rfl rfl H54 ?_
      clear H54; intro a55 H55
      refine fin ?_
      refine then_n ?_
      refine wp_ret ?_
      -- return 3
      refine ret2 rfl H55 rfl rfl ?_
      first | (have hbad := hbad0; exact ⟨_, [], rfl, ⟨by rw [Txs.body_bad hbad], rfl⟩, H55.sep.sub (List.nil_sublist _)⟩) | exact ⟨_, [], rfl, ⟨by rw [Txs.body_yes hgood], rfl⟩, H55.sep.sub (List.nil_sublist _)⟩

end Go.Proofs.YtaeahloenahelaaDoor.A_RBody

set_option linter.unusedVariables false
set_option linter.unusedSimpArgs false
namespace Go.Proofs.YtaeahloenahelaaDoor.A_Tag
open Go.Sx Go.RowKit Go.Proofs.YtaeahloenahelaaDoor.A_Block Go.Proofs.YtaeahloenahelaaDoor.A_Sum Go.Proofs.YtaeahloenahelaaDoor.A_Ref Go.Proofs.YtaeahloenahelaaDoor.A_RSum Go.Proofs.YtaeahloenahelaaDoor.A_Leaf Go.Proofs.YtaeahloenahelaaDoor.A_Num Go.Proofs.YtaeahloenahelaaDoor.A_Key

theorem z_zero28 : zeroL Tryd.prog 28 = some (List.replicate 32 (.int .u8 0)) := by kernel_rfl
theorem z_call97 : callB Tryd.prog 97 = true := by kernel_rfl
theorem z_size28 : sizeB Tryd.prog 28 = some 32 := by kernel_rfl
theorem z_size5 : sizeB Tryd.prog 5 = some 1 := by kernel_rfl
theorem z_agg28 : aggB Tryd.prog 28 = some true := by kernel_rfl
theorem z_call71 : callB Tryd.prog 71 = true := by kernel_rfl
theorem z_zero5 : zeroL Tryd.prog 5 = some ([.int .u8 0]) := by kernel_rfl
theorem z_call72 : callB Tryd.prog 72 = true := by kernel_rfl

set_option maxRecDepth 100000 in
set_option maxHeartbeats 2000000 in
theorem rtag (who dom : Int) (hw : -9223372036854775808 ≤ who ∧ who ≤ 9223372036854775807) (hd : -9223372036854775808 ≤ dom ∧ dom ≤ 9223372036854775807) (body : List UInt8) (hbl : body.length ≤ 140737488351232) (w : World) : Calls Tryd.prog 76 #[.int .i64 who, .int .i64 dom, str body] w (Gives (.tuple #[.agg ((Seal.tag who dom body).1.map u8).toArray, .int .i64 (Seal.tag who dom body).2]) [] w) := by
  refine enterL (args := [.int .i64 who, .int .i64 dom, str body]) Tryd.func76 rfl rfl (l := []) (Sep.refl _) ?_
  intro a0 H0
  refine wp_seq ?_
  refine reg ?_
  refine st_alloc rfl z_zero28 rfl rfl rfl H0 ?_
  clear H0; intro b1 a1 wx1 H1
  refine plain (y_assign rfl rfl) rfl rfl rfl H1 ?_
  clear H1; intro a2 H2
  refine fin ?_
  refine then_n ?_
  refine wp_seq ?_
  refine reg ?_
  refine plain (y_move rfl rfl) rfl rfl rfl H2 ?_
  clear H2; intro a3 H3
  refine st_callg rfl z_call97 rfl rfl rfl rfl H3 (rkey who hw _) ?_
  clear H3; intro a4 wx4 H4
  refine plain (y_move rfl rfl) rfl rfl rfl H4 ?_
  clear H4; intro a5 H5
  refine plain (y_extract rfl rfl rfl) rfl rfl rfl H5 ?_
  clear H5; intro a6 H6
  refine plain (y_extract rfl rfl rfl) rfl rfl rfl H6 ?_
  clear H6; intro a7 H7
  refine st_alloc rfl z_zero28 rfl rfl rfl H7 ?_
  clear H7; intro b8 a8 wx8 H8
  refine st_store (vs := _) rfl z_size28 rfl rfl (show _ = List.map u8 _ from rfl) (one_u8 _) (by rw [List.length_map, Seal.key_len]) (by repeat (first | exact Uh | apply Ut)) (by decide) rfl rfl H8 ?_
  clear H8; intro wx9 H9
  refine plain (y_assign rfl rfl) rfl rfl rfl H9 ?_
  clear H9; intro a10 H10
  refine fin ?_
  refine then_n ?_
  refine wp_seq ?_
  refine wp_seq ?_
  refine reg ?_
  rw [spl_all (by rw [List.length_map, Seal.key_len]; rfl)] at H10
  refine plain (y_move rfl rfl) rfl rfl rfl H10 ?_
  clear H10; intro a11 H11
  refine plain (y_neq rfl rfl rfl) rfl rfl rfl H11 ?_
  clear H11; intro a12 H12
  refine fin ?_
  refine then_n ?_
  refine cnd_d H12 rfl (fun hc13 => ?_) (fun hc13 => ?_) -- cond 1
  · skip
    refine wp_seq ?_
    refine reg ?_
    refine plain (y_buildA rfl z_zero28 Tryd.underlying28 z_size5 rfl rfl) rfl rfl rfl H12 ?_
    clear H12; intro a14 H14
    refine plain (y_move rfl rfl) rfl rfl rfl H14 ?_
    clear H14; intro a15 H15
    refine st_store (vs := _) rfl z_size28 rfl rfl rfl rfl rfl (by repeat (first | exact Uh | apply Ut)) (by decide) rfl rfl H15 ?_
    clear H15; intro wx16 H16
    refine plain (y_assign rfl rfl) rfl rfl rfl H16 ?_
    clear H16; intro a17 H17
    refine fin ?_
    refine then_n ?_
    refine wp_ret ?_
    refine then_r ?_
    -- return 1
    refine retct rfl H17 rfl z_agg28 z_size28 (by repeat (first | exact Mh | apply Mt)) rfl rfl ?_
    refine ⟨_, [], rfl, ⟨?_, rfl⟩, H17.sep.sub (List.nil_sublist _)⟩
    rw [Seal.tag_err (by omega)]
    rfl
  · skip
    refine wp_skip ?_
    refine then_n ?_
    refine wp_seq ?_
    refine wp_seq ?_
    refine reg ?_
    refine plain (y_move rfl rfl) rfl rfl rfl H12 ?_
    clear H12; intro a18 H18
    refine plain (y_lss rfl rfl rfl) rfl rfl rfl H18 ?_
    clear H18; intro a19 H19
    refine plain (y_move rfl rfl) rfl rfl rfl H19 ?_
    clear H19; intro a20 H20
    refine part_d (d := 21) H20 rfl (fun hg21 => ?_) (fun hg21 => ?_)
    · first
      | fail
      | skip
        clear H20; intro H22
        refine skip rfl rfl rfl H22 ?_
        clear H22; intro a23 H23
        refine skip rfl rfl rfl H23 ?_
        clear H23; intro a24 H24
        refine plain (y_pick_t rfl rfl rfl) rfl rfl rfl H24 ?_
        clear H24; intro a25 H25
        refine fin ?_
        refine then_n ?_
        refine cnd_t H25 rfl ?_
        refine wp_seq ?_
        refine reg ?_
        refine plain (y_buildA rfl z_zero28 Tryd.underlying28 z_size5 rfl rfl) rfl rfl rfl H25 ?_
        clear H25; intro a27 H27
        refine st_store (vs := _) rfl z_size28 rfl rfl rfl rfl rfl (by repeat (first | exact Uh | apply Ut)) (by decide) rfl rfl H27 ?_
        clear H27; intro wx28 H28
        refine plain (y_assign rfl rfl) rfl rfl rfl H28 ?_
        clear H28; intro a29 H29
        refine fin ?_
        refine then_n ?_
        refine wp_ret ?_
        refine then_r ?_
        -- return 2
        refine retct rfl H29 rfl z_agg28 z_size28 (by repeat (first | exact Mh | apply Mt)) rfl rfl ?_
        refine ⟨_, [], rfl, ⟨?_, rfl⟩, H29.sep.sub (List.nil_sublist _)⟩
        rw [Seal.tag_dom (by omega) (by omega)]
        rfl
    · first
      | fail
      | skip
        clear H20; intro H30
        refine plain (y_move rfl rfl) rfl rfl rfl H30 ?_
        clear H30; intro a31 H31
        refine plain (y_gtr rfl rfl rfl) rfl rfl rfl H31 ?_
        clear H31; intro a32 H32
        refine plain (y_pick_f rfl rfl rfl) rfl rfl rfl H32 ?_
        clear H32; intro a33 H33
        refine fin ?_
        refine then_n ?_
        refine cnd_d H33 rfl (fun hc34 => ?_) (fun hc34 => ?_) -- cond 3
        · skip
          refine wp_seq ?_
          refine reg ?_
          refine plain (y_buildA rfl z_zero28 Tryd.underlying28 z_size5 rfl rfl) rfl rfl rfl H33 ?_
          clear H33; intro a35 H35
          refine st_store (vs := _) rfl z_size28 rfl rfl rfl rfl rfl (by repeat (first | exact Uh | apply Ut)) (by decide) rfl rfl H35 ?_
          clear H35; intro wx36 H36
          refine plain (y_assign rfl rfl) rfl rfl rfl H36 ?_
          clear H36; intro a37 H37
          refine fin ?_
          refine then_n ?_
          refine wp_ret ?_
          refine then_r ?_
          -- return 3
          refine retct rfl H37 rfl z_agg28 z_size28 (by repeat (first | exact Mh | apply Mt)) rfl rfl ?_
          refine ⟨_, [], rfl, ⟨?_, rfl⟩, H37.sep.sub (List.nil_sublist _)⟩
          rw [Seal.tag_dom (by omega) (by omega)]
          rfl
        · skip
          refine wp_skip ?_
          refine then_n ?_
          refine wp_seq ?_
          refine hreg [It.blk b8 28 ((Seal.key who).1.map u8)] (fun _ h => (h.sub (by first | exact S0 | exact S1 | repeat (first | exact S1 | exact S0 | apply S2 | apply S3)))) (by kernel_rfl) H33 ?_
          clear H33; intro wx38 H38
          refine htake 0 rfl (by kernel_rfl) (y_loadAB rfl z_agg28 z_size28 rfl (by repeat (first | exact Mh | apply Mt)) (take_all (cs := (Seal.key who).1.map u8) (by rw [List.length_map, Seal.key_len])) (by rw [List.length_map, Seal.key_len])) rfl rfl rfl (fun _ h => (h.sub (by first | exact S0 | exact S1 | repeat (first | exact S1 | exact S0 | apply S2 | apply S3)))) H38 ?_
          clear H38; intro a39 H39
          refine htake 2 rfl (by kernel_rfl) (y_move rfl rfl) rfl rfl rfl (fun _ h => (h.sub (by first | exact S0 | exact S1 | repeat (first | exact S1 | exact S0 | apply S2 | apply S3)))) H39 ?_
          clear H39; intro a40 H40
          refine htake 3 rfl (by kernel_rfl) (y_conv rfl Tryd.underlying3 Tryd.underlying5 rfl (show IntKind.u8.wrap dom = ((UInt8.ofNat dom.toNat).toNat : Int) by rw [wu8_mod, UInt8.toNat_ofNat']; omega)) rfl rfl rfl (fun _ h => (h.sub (by first | exact S0 | exact S1 | repeat (first | exact S1 | exact S0 | apply S2 | apply S3)))) H40 ?_
          clear H40; intro a41 H41
          refine htake 7 rfl (by kernel_rfl) (y_move rfl rfl) rfl rfl rfl (fun _ h => (h.sub (by first | exact S0 | exact S1 | repeat (first | exact S1 | exact S0 | apply S2 | apply S3)))) H41 ?_
          clear H41; intro a42 H42
          refine hgo2 1 4 rfl rfl (by kernel_rfl) ?_ ?_
          · skip
            refine st_callg rfl z_call71 rfl rfl rfl rfl H42 (rbytes _ (Seal.key_len who) _) ?_
            clear H42; intro a43 wx43 H43
            refine hfin (H43.sep.sub (by first | exact S0 | exact S1 | repeat (first | exact S1 | exact S0 | apply S2 | apply S3))) ?_
            refine hgo 4 rfl (by kernel_rfl) ?_
            refine st_buildSlice1 (xs := [.tmp 29]) rfl Tryd.underlying118 z_size5 z_zero5 rfl rfl rfl rfl rfl rfl rfl rfl rfl H43 ?_
            clear H43; intro b44 a44 wx44 H44
            refine hfin (H44.sep.sub (by first | exact S0 | exact S1 | repeat (first | exact S1 | exact S0 | apply S2 | apply S3))) ?_
            refine hgo 5 rfl (by kernel_rfl) ?_
            refine plain (y_bstr (p := [UInt8.ofNat dom.toNat]) rfl Tryd.underlying118 Tryd.underlying5 Tryd.underlying9 rfl (by simp) (rd_blkA (by repeat (first | exact Mh | apply Mt)))) rfl rfl rfl H44 ?_
            clear H44; intro a45 H45
            refine hfin (H45.sep.sub (by first | exact S0 | exact S1 | repeat (first | exact S1 | exact S0 | apply S2 | apply S3))) ?_
            refine htake 6 rfl (by kernel_rfl) (y_sadd rfl rfl rfl (by simp only [List.length_cons, List.length_nil, Seal.key_len]; omega)) rfl rfl rfl (fun _ h => (h.sub (by first | exact S0 | exact S1 | repeat (first | exact S1 | exact S0 | apply S2 | apply S3)))) H45 ?_
            clear H45; intro a46 H46
            refine htake 8 rfl (by kernel_rfl) (y_sadd rfl rfl rfl (by simp only [List.length_append, List.length_cons, List.length_nil, Seal.key_len]; omega)) rfl rfl rfl (fun _ h => (h.sub (by first | exact S0 | exact S1 | repeat (first | exact S1 | exact S0 | apply S2 | apply S3)))) H46 ?_
            clear H46; intro a47 H47
            refine hgo 9 rfl (by kernel_rfl) ?_
            refine st_callg rfl z_call72 rfl rfl rfl rfl H47 (rsum _ (by simp only [List.length_append, List.length_cons, List.length_nil, Seal.key_len]; omega) _) ?_
            clear H47; intro a48 wx48 H48
            refine hfin (H48.sep.sub (by first | exact S0 | exact S1 | repeat (first | exact S1 | exact S0 | apply S2 | apply S3))) ?_
            refine hgo 10 rfl (by kernel_rfl) ?_
            refine st_store (vs := _) rfl z_size28 rfl rfl (show _ = List.map u8 _ from rfl) (one_u8 _) (by rw [List.length_map, Sha.sum_length]) (by repeat (first | exact Uh | apply Ut)) (by decide) rfl rfl H48 ?_
            clear H48; intro wx49 H49
            refine hfin (H49.sep.sub (by first | exact S0 | exact S1 | repeat (first | exact S1 | exact S0 | apply S2 | apply S3))) ?_
            refine htake 11 rfl (by kernel_rfl) (y_assign rfl rfl) rfl rfl rfl (fun _ h => (h.sub (by first | exact S0 | exact S1 | repeat (first | exact S1 | exact S0 | apply S2 | apply S3)))) H49 ?_
            clear H49; intro a50 H50
            refine hdone (by kernel_rfl) ?_
            refine then_n ?_
            refine wp_ret ?_
            -- return 4
            refine retct rfl H50 rfl z_agg28 z_size28 (by repeat (first | exact Mh | apply Mt)) (by rw [spl_all (by rw [List.length_map, Sha.sum_length]; rfl), List.length_map, Sha.sum_length]) rfl ?_
            refine ⟨_, [], rfl, ⟨?_, rfl⟩, H50.sep.sub (List.nil_sublist _)⟩
            rw [spl_all (by rw [List.length_map, Sha.sum_length]; rfl), Seal.tag_ok (by omega) (by omega)]
            simp only [List.append_assoc]
          · skip
            refine st_buildSlice1 (xs := [.tmp 29]) rfl Tryd.underlying118 z_size5 z_zero5 rfl rfl rfl rfl rfl rfl rfl rfl rfl H42 ?_
            clear H42; intro b51 a51 wx51 H51
            refine hfin (H51.sep.sub (by first | exact S0 | exact S1 | repeat (first | exact S1 | exact S0 | apply S2 | apply S3))) ?_
            refine hgo2 1 5 rfl rfl (by kernel_rfl) ?_ ?_
            · skip
              refine st_callg rfl z_call71 rfl rfl rfl rfl H51 (rbytes _ (Seal.key_len who) _) ?_
              clear H51; intro a52 wx52 H52
              refine hfin (H52.sep.sub (by first | exact S0 | exact S1 | repeat (first | exact S1 | exact S0 | apply S2 | apply S3))) ?_
              refine hgo 5 rfl (by kernel_rfl) ?_
              refine plain (y_bstr (p := [UInt8.ofNat dom.toNat]) rfl Tryd.underlying118 Tryd.underlying5 Tryd.underlying9 rfl (by simp) (rd_blkA (by repeat (first | exact Mh | apply Mt)))) rfl rfl rfl H52 ?_
              clear H52; intro a53 H53
              refine hfin (H53.sep.sub (by first | exact S0 | exact S1 | repeat (first | exact S1 | exact S0 | apply S2 | apply S3))) ?_
              refine htake 6 rfl (by kernel_rfl) (y_sadd rfl rfl rfl (by simp only [List.length_cons, List.length_nil, Seal.key_len]; omega)) rfl rfl rfl (fun _ h => (h.sub (by first | exact S0 | exact S1 | repeat (first | exact S1 | exact S0 | apply S2 | apply S3)))) H53 ?_
              clear H53; intro a54 H54
              refine htake 8 rfl (by kernel_rfl) (y_sadd rfl rfl rfl (by simp only [List.length_append, List.length_cons, List.length_nil, Seal.key_len]; omega)) rfl rfl rfl (fun _ h => (h.sub (by first | exact S0 | exact S1 | repeat (first | exact S1 | exact S0 | apply S2 | apply S3)))) H54 ?_
              clear H54; intro a55 H55
              refine hgo 9 rfl (by kernel_rfl) ?_
              refine st_callg rfl z_call72 rfl rfl rfl rfl H55 (rsum _ (by simp only [List.length_append, List.length_cons, List.length_nil, Seal.key_len]; omega) _) ?_
              clear H55; intro a56 wx56 H56
              refine hfin (H56.sep.sub (by first | exact S0 | exact S1 | repeat (first | exact S1 | exact S0 | apply S2 | apply S3))) ?_
              refine hgo 10 rfl (by kernel_rfl) ?_
              refine st_store (vs := _) rfl z_size28 rfl rfl (show _ = List.map u8 _ from rfl) (one_u8 _) (by rw [List.length_map, Sha.sum_length]) (by repeat (first | exact Uh | apply Ut)) (by decide) rfl rfl H56 ?_
              clear H56; intro wx57 H57
              refine hfin (H57.sep.sub (by first | exact S0 | exact S1 | repeat (first | exact S1 | exact S0 | apply S2 | apply S3))) ?_
              refine htake 11 rfl (by kernel_rfl) (y_assign rfl rfl) rfl rfl rfl (fun _ h => (h.sub (by first | exact S0 | exact S1 | repeat (first | exact S1 | exact S0 | apply S2 | apply S3)))) H57 ?_
              clear H57; intro a58 H58
              refine hdone (by kernel_rfl) ?_
              refine then_n ?_
              refine wp_ret ?_
              -- return 5
              refine retct rfl H58 rfl z_agg28 z_size28 (by repeat (first | exact Mh | apply Mt)) (by rw [spl_all (by rw [List.length_map, Sha.sum_length]; rfl), List.length_map, Sha.sum_length]) rfl ?_
              refine ⟨_, [], rfl, ⟨?_, rfl⟩, H58.sep.sub (List.nil_sublist _)⟩
              rw [spl_all (by rw [List.length_map, Sha.sum_length]; rfl), Seal.tag_ok (by omega) (by omega)]
              simp only [List.append_assoc]
            · skip
              refine plain (y_bstr (p := [UInt8.ofNat dom.toNat]) rfl Tryd.underlying118 Tryd.underlying5 Tryd.underlying9 rfl (by simp) (rd_blkA (by repeat (first | exact Mh | apply Mt)))) rfl rfl rfl H51 ?_
              clear H51; intro a59 H59
              refine hfin (H59.sep.sub (by first | exact S0 | exact S1 | repeat (first | exact S1 | exact S0 | apply S2 | apply S3))) ?_
              refine hgo 1 rfl (by kernel_rfl) ?_
              refine st_callg rfl z_call71 rfl rfl rfl rfl H59 (rbytes _ (Seal.key_len who) _) ?_
              clear H59; intro a60 wx60 H60
              refine hfin (H60.sep.sub (by first | exact S0 | exact S1 | repeat (first | exact S1 | exact S0 | apply S2 | apply S3))) ?_
              refine htake 6 rfl (by kernel_rfl) (y_sadd rfl rfl rfl (by simp only [List.length_cons, List.length_nil, Seal.key_len]; omega)) rfl rfl rfl (fun _ h => (h.sub (by first | exact S0 | exact S1 | repeat (first | exact S1 | exact S0 | apply S2 | apply S3)))) H60 ?_
              clear H60; intro a61 H61
              refine htake 8 rfl (by kernel_rfl) (y_sadd rfl rfl rfl (by simp only [List.length_append, List.length_cons, List.length_nil, Seal.key_len]; omega)) rfl rfl rfl (fun _ h => (h.sub (by first | exact S0 | exact S1 | repeat (first | exact S1 | exact S0 | apply S2 | apply S3)))) H61 ?_
              clear H61; intro a62 H62
              refine hgo 9 rfl (by kernel_rfl) ?_
              refine st_callg rfl z_call72 rfl rfl rfl rfl H62 (rsum _ (by simp only [List.length_append, List.length_cons, List.length_nil, Seal.key_len]; omega) _) ?_
              clear H62; intro a63 wx63 H63
              refine hfin (H63.sep.sub (by first | exact S0 | exact S1 | repeat (first | exact S1 | exact S0 | apply S2 | apply S3))) ?_
              refine hgo 10 rfl (by kernel_rfl) ?_
              refine st_store (vs := _) rfl z_size28 rfl rfl (show _ = List.map u8 _ from rfl) (one_u8 _) (by rw [List.length_map, Sha.sum_length]) (by repeat (first | exact Uh | apply Ut)) (by decide) rfl rfl H63 ?_
              clear H63; intro wx64 H64
              refine hfin (H64.sep.sub (by first | exact S0 | exact S1 | repeat (first | exact S1 | exact S0 | apply S2 | apply S3))) ?_
              refine htake 11 rfl (by kernel_rfl) (y_assign rfl rfl) rfl rfl rfl (fun _ h => (h.sub (by first | exact S0 | exact S1 | repeat (first | exact S1 | exact S0 | apply S2 | apply S3)))) H64 ?_
              clear H64; intro a65 H65
              refine hdone (by kernel_rfl) ?_
              refine then_n ?_
              refine wp_ret ?_
              -- return 6
              refine retct rfl H65 rfl z_agg28 z_size28 (by repeat (first | exact Mh | apply Mt)) (by rw [spl_all (by rw [List.length_map, Sha.sum_length]; rfl), List.length_map, Sha.sum_length]) rfl ?_
              refine ⟨_, [], rfl, ⟨?_, rfl⟩, H65.sep.sub (List.nil_sublist _)⟩
              rw [spl_all (by rw [List.length_map, Sha.sum_length]; rfl), Seal.tag_ok (by omega) (by omega)]
              simp only [List.append_assoc]

end Go.Proofs.YtaeahloenahelaaDoor.A_Tag

set_option linter.unusedVariables false
set_option linter.unusedSimpArgs false
namespace Go.Proofs.YtaeahloenahelaaDoor.A_RHand
open Go.Sx Go.RowKit Go.Proofs.YtaeahloenahelaaDoor.A_Block Go.Proofs.YtaeahloenahelaaDoor.A_Sum Go.Proofs.YtaeahloenahelaaDoor.A_Ref Go.Proofs.YtaeahloenahelaaDoor.A_RSum Go.Proofs.YtaeahloenahelaaDoor.A_Leaf Go.Proofs.YtaeahloenahelaaDoor.A_Num Go.Proofs.YtaeahloenahelaaDoor.A_Key Go.Proofs.YtaeahloenahelaaDoor.A_Ref Go.Proofs.YtaeahloenahelaaDoor.A_RSum Go.Proofs.YtaeahloenahelaaDoor.A_Tx Go.Proofs.YtaeahloenahelaaDoor.A_RBody Go.Proofs.YtaeahloenahelaaDoor.A_Tag

theorem z_zeroN50 : zeroL Tryd.prog 50 = some ((.int .i64 0 :: (.int .i64 0 :: (.int .i64 0 :: (.int .i64 0 :: (.string ⟨#[]⟩ :: (.bool false :: (.int .i64 0 :: (.int .i64 0 :: ((List.replicate 32 (0 : UInt8)).map u8 ++ (List.replicate 32 (0 : UInt8)).map u8)))))))))) := by kernel_rfl
theorem z_agg50 : aggB Tryd.prog 50 = some true := by kernel_rfl
theorem z_size50 : sizeB Tryd.prog 50 = some 72 := by kernel_rfl
theorem q_ld_c8b32b32_0_72 {a0 a1 a2 a3 a4 a5 a6 a7 : Value} {t8 t9 : List UInt8} (h8 : t8.length = 32) (h9 : t9.length = 32) : ((a0 :: a1 :: a2 :: a3 :: a4 :: a5 :: a6 :: a7 :: (t8.map u8 ++ (t9.map u8))).drop 0).take 72 = a0 :: a1 :: a2 :: a3 :: a4 :: a5 :: a6 :: a7 :: (t8.map u8 ++ (t9.map u8)) := (ld_a (len_c (n := 71) (len_c (n := 70) (len_c (n := 69) (len_c (n := 68) (len_c (n := 67) (len_c (n := 66) (len_c (n := 65) (len_c (n := 64) (len_b (k := 32) (n := 32) h8 (len_e (k := 32) h9)))))))))))
theorem q_len_c8b32b32 {a0 a1 a2 a3 a4 a5 a6 a7 : Value} {t8 t9 : List UInt8} (h8 : t8.length = 32) (h9 : t9.length = 32) : (a0 :: a1 :: a2 :: a3 :: a4 :: a5 :: a6 :: a7 :: (t8.map u8 ++ (t9.map u8))).length = 72 := (len_c (n := 71) (len_c (n := 70) (len_c (n := 69) (len_c (n := 68) (len_c (n := 67) (len_c (n := 66) (len_c (n := 65) (len_c (n := 64) (len_b (k := 32) (n := 32) h8 (len_e (k := 32) h9))))))))))
theorem z_call77 : callB Tryd.prog 77 = true := by kernel_rfl
theorem z_places50 : placesB Tryd.prog 50 = some [(0, 1), (1, 1), (2, 1), (3, 1), (4, 1), (5, 1), (6, 1), (7, 1), (8, 32), (40, 32)] := by kernel_rfl
theorem q_one_c8b32b32 {a0 a1 a2 a3 a4 a5 a6 a7 : Value} {t8 t9 : List UInt8} (o0 : a0.oneCell' = true) (o1 : a1.oneCell' = true) (o2 : a2.oneCell' = true) (o3 : a3.oneCell' = true) (o4 : a4.oneCell' = true) (o5 : a5.oneCell' = true) (o6 : a6.oneCell' = true) (o7 : a7.oneCell' = true) : (a0 :: a1 :: a2 :: a3 :: a4 :: a5 :: a6 :: a7 :: (t8.map u8 ++ (t9.map u8))).all (·.oneCell') = true := (one_c o0 (one_c o1 (one_c o2 (one_c o3 (one_c o4 (one_c o5 (one_c o6 (one_c o7 (one_b (one_u8 _))))))))))
theorem q_spl_c8b32b32_0_c8b32b32 {a0 a1 a2 a3 a4 a5 a6 a7 : Value} {t8 t9 : List UInt8} {b0 b1 b2 b3 b4 b5 b6 b7 : Value} {s8 s9 : List UInt8} (h8 : t8.length = 32) (h9 : t9.length = 32) (g8 : s8.length = 32) (g9 : s9.length = 32) : spl (a0 :: a1 :: a2 :: a3 :: a4 :: a5 :: a6 :: a7 :: (t8.map u8 ++ (t9.map u8))) 0 (b0 :: b1 :: b2 :: b3 :: b4 :: b5 :: b6 :: b7 :: (s8.map u8 ++ (s9.map u8))) = b0 :: b1 :: b2 :: b3 :: b4 :: b5 :: b6 :: b7 :: (s8.map u8 ++ (s9.map u8)) := (spl_a (z := 72) (len_c (n := 71) (len_c (n := 70) (len_c (n := 69) (len_c (n := 68) (len_c (n := 67) (len_c (n := 66) (len_c (n := 65) (len_c (n := 64) (len_b (k := 32) (n := 32) h8 (len_e (k := 32) h9)))))))))) (len_c (n := 71) (len_c (n := 70) (len_c (n := 69) (len_c (n := 68) (len_c (n := 67) (len_c (n := 66) (len_c (n := 65) (len_c (n := 64) (len_b (k := 32) (n := 32) g8 (len_e (k := 32) g9)))))))))))
theorem z_call78 : callB Tryd.prog 78 = true := by kernel_rfl
theorem z_field50_5 : fieldB Tryd.prog 50 5 = some 5 := by kernel_rfl
theorem z_agg4 : aggB Tryd.prog 4 = some false := by kernel_rfl
theorem q_ix_c8b32b32_5 {a0 a1 a2 a3 a4 a5 a6 a7 : Value} {t8 t9 : List UInt8} : (a0 :: a1 :: a2 :: a3 :: a4 :: a5 :: a6 :: a7 :: (t8.map u8 ++ (t9.map u8)))[5]? = some a5 := (ix_c (o := 4) (ix_c (o := 3) (ix_c (o := 2) (ix_c (o := 1) (ix_c (o := 0) ix_0)))))
theorem z_call76 : callB Tryd.prog 76 = true := by kernel_rfl
theorem z_zeroN28 : zeroL Tryd.prog 28 = some ((List.replicate 32 (0 : UInt8)).map u8) := by kernel_rfl
theorem z_size28 : sizeB Tryd.prog 28 = some 32 := by kernel_rfl
theorem q_one_b32 {t0 : List UInt8} : (t0.map u8).all (·.oneCell') = true := (one_u8 _)
theorem q_len_b32 {t0 : List UInt8} (h0 : t0.length = 32) : (t0.map u8).length = 32 := (len_e (k := 32) h0)
theorem q_spl_b32_0_b32 {t0 : List UInt8} {s0 : List UInt8} (h0 : t0.length = 32) (g0 : s0.length = 32) : spl (t0.map u8) 0 (s0.map u8) = s0.map u8 := (spl_a (z := 32) (len_e (k := 32) h0) (len_e (k := 32) g0))
theorem z_agg28 : aggB Tryd.prog 28 = some true := by kernel_rfl
theorem q_ld_b32_0_32 {t0 : List UInt8} (h0 : t0.length = 32) : ((t0.map u8).drop 0).take 32 = t0.map u8 := (ld_a (len_e (k := 32) h0))
theorem z_field50_8 : fieldB Tryd.prog 50 8 = some 8 := by kernel_rfl
theorem q_spl_c8b32b32_8_b32 {a0 a1 a2 a3 a4 a5 a6 a7 : Value} {t8 t9 : List UInt8} {s0 : List UInt8} (h8 : t8.length = 32) (g0 : s0.length = 32) : spl (a0 :: a1 :: a2 :: a3 :: a4 :: a5 :: a6 :: a7 :: (t8.map u8 ++ (t9.map u8))) 8 (s0.map u8) = a0 :: a1 :: a2 :: a3 :: a4 :: a5 :: a6 :: a7 :: (s0.map u8 ++ (t9.map u8)) := (spl_c (o := 7) (spl_c (o := 6) (spl_c (o := 5) (spl_c (o := 4) (spl_c (o := 3) (spl_c (o := 2) (spl_c (o := 1) (spl_c (o := 0) (spl_h (z := 32) (len_e h8) (len_e g0))))))))))

set_option maxRecDepth 100000 in
set_option maxHeartbeats 4000000 in
theorem rhand (t : Txs.Tx) (wf : Txs.Tx.Wf t) (who : Int) (hw : Note.I64 who) (w : World) : Calls Tryd.prog 52 #[.agg (Txs.Tx.cells t).toArray, .int .i64 who] w (Gives (.tuple #[.agg (Txs.Tx.cells (Txs.hand t who).1).toArray, .int .i64 (Txs.hand t who).2]) [] w) := by
  have whd := wf.hand
  have wtg := wf.tag
  have hbl := Txs.body_len t
  have lz32 : (List.replicate 32 (0 : UInt8)).length = 32 := List.length_replicate
  have lz0 := wf.hand
  have lz1 := wf.tag
  refine enterL (args := [.agg (Txs.Tx.cells t).toArray, .int .i64 who]) Tryd.func52 rfl rfl (l := []) (Sep.refl _) ?_
  intro a0 H0
  refine wp_seq ?_
  refine reg ?_
  refine st_box rfl rfl (agg_cells _) rfl rfl rfl H0 ?_
  clear H0; intro b1 a1 wx1 H1
  refine st_alloc rfl z_zeroN50 rfl rfl rfl H1 ?_
  clear H1; intro b2 a2 wx2 H2
  refine plain (y_assign rfl rfl) rfl rfl rfl H2 ?_
  clear H2; intro a3 H3
  refine fin ?_
  refine then_n ?_
  refine wp_seq ?_
  refine reg ?_
  refine plain (y_loadAB rfl z_agg50 z_size50 rfl (by repeat (first | exact Mh | apply Mt)) (q_ld_c8b32b32_0_72 (by first | assumption | exact Seal.tag_len _ _ _) (by first | assumption | exact Seal.tag_len _ _ _)) (q_len_c8b32b32 (by first | assumption | exact Seal.tag_len _ _ _) (by first | assumption | exact Seal.tag_len _ _ _))) rfl rfl rfl H3 ?_
  clear H3; intro a4 H4
  refine st_callg rfl z_call77 rfl rfl rfl rfl H4 (rtbody t wf _) ?_
  clear H4; intro a5 wx5 H5
  refine plain (y_move rfl rfl) rfl rfl rfl H5 ?_
  clear H5; intro a6 H6
  refine plain (y_extract rfl rfl rfl) rfl rfl rfl H6 ?_
  clear H6; intro a7 H7
  refine plain (y_extract rfl rfl rfl) rfl rfl rfl H7 ?_
  clear H7; intro a8 H8
  refine plain (y_assign rfl rfl) rfl rfl rfl H8 ?_
  clear H8; intro a9 H9
  refine plain (y_assign rfl rfl) rfl rfl rfl H9 ?_
  clear H9; intro a10 H10
  refine fin ?_
  refine then_n ?_
  refine wp_seq ?_
  refine wp_seq ?_
  refine reg ?_
  refine plain (y_move rfl rfl) rfl rfl rfl H10 ?_
  clear H10; intro a11 H11
  refine plain (y_neq rfl rfl rfl) rfl rfl rfl H11 ?_
  clear H11; intro a12 H12
  refine fin ?_
  refine then_n ?_
  refine cnd H12 rfl (fun hc13 => ?_) (fun hc13 => ?_) -- cond 1
  · skip
    try simp only [decide_eq_true_eq, decide_eq_false_iff_not, Bool.not_eq_true', Bool.not_eq_false', Bool.and_eq_true, Bool.not_eq_true, Bool.not_eq_false] at hc13
    have hb1 := hc13
    refine wp_seq ?_
    refine reg ?_
    refine plain (y_build rfl z_zeroN50 z_places50 rfl lay_n) rfl rfl rfl H12 ?_
    clear H12; intro a14 H14
    refine plain (y_move rfl rfl) rfl rfl rfl H14 ?_
    clear H14; intro a15 H15
    refine st_storeN rfl z_size50 rfl rfl (agg_cells _) (by repeat (first | exact Uh | apply Ut)) (q_one_c8b32b32 rfl rfl rfl rfl rfl rfl rfl rfl) (q_len_c8b32b32 (by first | assumption | exact Seal.tag_len _ _ _) (by first | assumption | exact Seal.tag_len _ _ _)) (q_len_c8b32b32 (by first | assumption | exact Seal.tag_len _ _ _) (by first | assumption | exact Seal.tag_len _ _ _)) (q_spl_c8b32b32_0_c8b32b32 (by first | assumption | exact Seal.tag_len _ _ _) (by first | assumption | exact Seal.tag_len _ _ _) (by first | assumption | exact Seal.tag_len _ _ _) (by first | assumption | exact Seal.tag_len _ _ _)) (by decide) rfl rfl H15 ?_
    clear H15; intro wx16 H16
    refine plain (y_assign rfl rfl) rfl rfl rfl H16 ?_
    clear H16; intro a17 H17
    refine fin ?_
    refine then_n ?_
    refine wp_ret ?_
    refine then_r ?_
    -- return 1
    refine retct rfl H17 rfl z_agg50 z_size50 (by repeat (first | exact Mh | apply Mt)) (q_len_c8b32b32 (by first | assumption | exact Seal.tag_len _ _ _) (by first | assumption | exact Seal.tag_len _ _ _)) rfl ?_
    first | (have hz := Txs.hand_err (who := who) hb1; exact ⟨_, [], rfl, ⟨by rw [hz]; rfl, rfl⟩, H17.sep.sub (List.nil_sublist _)⟩) | (have hz := Txs.hand_who hb2 hk1; exact ⟨_, [], rfl, ⟨by rw [hz]; rfl, rfl⟩, H17.sep.sub (List.nil_sublist _)⟩) | (have hz := Txs.hand_lane hb2 hk2 hl1; exact ⟨_, [], rfl, ⟨by rw [hz]; rfl, rfl⟩, H17.sep.sub (List.nil_sublist _)⟩) | (have hz := Txs.hand_ok hb2 hk2 hl2; exact ⟨_, [], rfl, ⟨by rw [hz]; rfl, rfl⟩, H17.sep.sub (List.nil_sublist _)⟩)
  · skip
    try simp only [decide_eq_true_eq, decide_eq_false_iff_not, Bool.not_eq_true', Bool.not_eq_false', Bool.and_eq_true, Bool.not_eq_true, Bool.not_eq_false] at hc13
    have hb2 := hc13
    refine wp_skip ?_
    refine then_n ?_
    refine wp_seq ?_
    refine wp_seq ?_
    refine reg ?_
    refine plain (y_move rfl rfl) rfl rfl rfl H12 ?_
    clear H12; intro a18 H18
    refine st_callg rfl z_call78 rfl rfl rfl rfl H18 (rwin4 _ _ _) ?_
    clear H18; intro a19 wx19 H19
    refine plain ((by first | exact y_not_d rfl rfl | exact y_not rfl rfl)) rfl rfl rfl H19 ?_
    clear H19; intro a20 H20
    refine fin ?_
    refine then_n ?_
    refine cnd H20 rfl (fun hc21 => ?_) (fun hc21 => ?_) -- cond 2
    · skip
      try simp only [decide_eq_true_eq, decide_eq_false_iff_not, Bool.not_eq_true', Bool.not_eq_false', Bool.and_eq_true, Bool.not_eq_true, Bool.not_eq_false] at hc21
      have hk1 := hc21
      refine wp_seq ?_
      refine reg ?_
      refine plain (y_build rfl z_zeroN50 z_places50 rfl lay_n) rfl rfl rfl H20 ?_
      clear H20; intro a22 H22
      refine st_storeN rfl z_size50 rfl rfl (agg_cells _) (by repeat (first | exact Uh | apply Ut)) (q_one_c8b32b32 rfl rfl rfl rfl rfl rfl rfl rfl) (q_len_c8b32b32 (by first | assumption | exact Seal.tag_len _ _ _) (by first | assumption | exact Seal.tag_len _ _ _)) (q_len_c8b32b32 (by first | assumption | exact Seal.tag_len _ _ _) (by first | assumption | exact Seal.tag_len _ _ _)) (q_spl_c8b32b32_0_c8b32b32 (by first | assumption | exact Seal.tag_len _ _ _) (by first | assumption | exact Seal.tag_len _ _ _) (by first | assumption | exact Seal.tag_len _ _ _) (by first | assumption | exact Seal.tag_len _ _ _)) (by decide) rfl rfl H22 ?_
      clear H22; intro wx23 H23
      refine plain (y_assign rfl rfl) rfl rfl rfl H23 ?_
      clear H23; intro a24 H24
      refine fin ?_
      refine then_n ?_
      refine wp_ret ?_
      refine then_r ?_
      -- return 2
      refine retct rfl H24 rfl z_agg50 z_size50 (by repeat (first | exact Mh | apply Mt)) (q_len_c8b32b32 (by first | assumption | exact Seal.tag_len _ _ _) (by first | assumption | exact Seal.tag_len _ _ _)) rfl ?_
      first | (have hz := Txs.hand_err (who := who) hb1; exact ⟨_, [], rfl, ⟨by rw [hz]; rfl, rfl⟩, H24.sep.sub (List.nil_sublist _)⟩) | (have hz := Txs.hand_who hb2 hk1; exact ⟨_, [], rfl, ⟨by rw [hz]; rfl, rfl⟩, H24.sep.sub (List.nil_sublist _)⟩) | (have hz := Txs.hand_lane hb2 hk2 hl1; exact ⟨_, [], rfl, ⟨by rw [hz]; rfl, rfl⟩, H24.sep.sub (List.nil_sublist _)⟩) | (have hz := Txs.hand_ok hb2 hk2 hl2; exact ⟨_, [], rfl, ⟨by rw [hz]; rfl, rfl⟩, H24.sep.sub (List.nil_sublist _)⟩)
    · skip
      try simp only [decide_eq_true_eq, decide_eq_false_iff_not, Bool.not_eq_true', Bool.not_eq_false', Bool.and_eq_true, Bool.not_eq_true, Bool.not_eq_false] at hc21
      have hk2 := Decidable.not_not.1 hc21
      refine wp_skip ?_
      refine then_n ?_
      refine wp_seq ?_
      refine wp_seq ?_
      refine reg ?_
      refine plain (y_fieldB rfl z_field50_5 rfl (by first | (simp only [Nat.zero_add, Nat.add_zero, Nat.reduceAdd]; rfl) | rfl)) rfl rfl rfl H20 ?_
      clear H20; intro a25 H25
      refine plain (y_loadB rfl z_agg4 rfl (by repeat (first | exact Mh | apply Mt)) q_ix_c8b32b32_5) rfl rfl rfl H25 ?_
      clear H25; intro a26 H26
      refine plain ((by first | exact y_not_d rfl rfl | exact y_not rfl rfl)) rfl rfl rfl H26 ?_
      clear H26; intro a27 H27
      refine fin ?_
      refine then_n ?_
      refine cnd H27 rfl (fun hc28 => ?_) (fun hc28 => ?_) -- cond 3
      · skip
        try simp only [decide_eq_true_eq, decide_eq_false_iff_not, Bool.not_eq_true', Bool.not_eq_false', Bool.and_eq_true, Bool.not_eq_true, Bool.not_eq_false] at hc28
        have hl1 : t.lane = false := by simpa using hc28
        refine wp_seq ?_
        refine reg ?_
        refine plain (y_build rfl z_zeroN50 z_places50 rfl lay_n) rfl rfl rfl H27 ?_
        clear H27; intro a29 H29
        refine st_storeN rfl z_size50 rfl rfl (agg_cells _) (by repeat (first | exact Uh | apply Ut)) (q_one_c8b32b32 rfl rfl rfl rfl rfl rfl rfl rfl) (q_len_c8b32b32 (by first | assumption | exact Seal.tag_len _ _ _) (by first | assumption | exact Seal.tag_len _ _ _)) (q_len_c8b32b32 (by first | assumption | exact Seal.tag_len _ _ _) (by first | assumption | exact Seal.tag_len _ _ _)) (q_spl_c8b32b32_0_c8b32b32 (by first | assumption | exact Seal.tag_len _ _ _) (by first | assumption | exact Seal.tag_len _ _ _) (by first | assumption | exact Seal.tag_len _ _ _) (by first | assumption | exact Seal.tag_len _ _ _)) (by decide) rfl rfl H29 ?_
        clear H29; intro wx30 H30
        refine plain (y_assign rfl rfl) rfl rfl rfl H30 ?_
        clear H30; intro a31 H31
        refine fin ?_
        refine then_n ?_
        refine wp_ret ?_
        refine then_r ?_
        -- return 3
        refine retct rfl H31 rfl z_agg50 z_size50 (by repeat (first | exact Mh | apply Mt)) (q_len_c8b32b32 (by first | assumption | exact Seal.tag_len _ _ _) (by first | assumption | exact Seal.tag_len _ _ _)) rfl ?_
        first | (have hz := Txs.hand_err (who := who) hb1; exact ⟨_, [], rfl, ⟨by rw [hz]; rfl, rfl⟩, H31.sep.sub (List.nil_sublist _)⟩) | (have hz := Txs.hand_who hb2 hk1; exact ⟨_, [], rfl, ⟨by rw [hz]; rfl, rfl⟩, H31.sep.sub (List.nil_sublist _)⟩) | (have hz := Txs.hand_lane hb2 hk2 hl1; exact ⟨_, [], rfl, ⟨by rw [hz]; rfl, rfl⟩, H31.sep.sub (List.nil_sublist _)⟩) | (have hz := Txs.hand_ok hb2 hk2 hl2; exact ⟨_, [], rfl, ⟨by rw [hz]; rfl, rfl⟩, H31.sep.sub (List.nil_sublist _)⟩)
      · skip
        try simp only [decide_eq_true_eq, decide_eq_false_iff_not, Bool.not_eq_true', Bool.not_eq_false', Bool.and_eq_true, Bool.not_eq_true, Bool.not_eq_false] at hc28
        have hl2 : t.lane = true := by simpa using hc28
        refine wp_skip ?_
        refine then_n ?_
        refine wp_seq ?_
        refine reg ?_
        refine plain (y_move rfl rfl) rfl rfl rfl H27 ?_
        clear H27; intro a32 H32
        refine plain (y_move rfl rfl) rfl rfl rfl H32 ?_
        clear H32; intro a33 H33
        refine st_callg rfl z_call76 rfl rfl rfl rfl H33 (rtag who 2 hw (by decide) (Txs.body t).1 (by omega) _) ?_
        clear H33; intro a34 wx34 H34
        refine plain (y_move rfl rfl) rfl rfl rfl H34 ?_
        clear H34; intro a35 H35
        refine plain (y_extract rfl rfl rfl) rfl rfl rfl H35 ?_
        clear H35; intro a36 H36
        refine plain (y_extract rfl rfl rfl) rfl rfl rfl H36 ?_
        clear H36; intro a37 H37
        refine st_alloc rfl z_zeroN28 rfl rfl rfl H37 ?_
        clear H37; intro b38 a38 wx38 H38
        refine st_storeN rfl z_size28 rfl rfl (agg_cells _) (by repeat (first | exact Uh | apply Ut)) q_one_b32 (q_len_b32 (by first | assumption | exact Seal.tag_len _ _ _)) (q_len_b32 (by first | assumption | exact Seal.tag_len _ _ _)) (q_spl_b32_0_b32 (by first | assumption | exact Seal.tag_len _ _ _) (by first | assumption | exact Seal.tag_len _ _ _)) (by decide) rfl rfl H38 ?_
        clear H38; intro wx39 H39
        refine plain (y_assign rfl rfl) rfl rfl rfl H39 ?_
        clear H39; intro a40 H40
        refine fin ?_
        refine then_n ?_
        refine wp_seq ?_
        refine reg ?_
        refine plain (y_loadAB rfl z_agg28 z_size28 rfl (by repeat (first | exact Mh | apply Mt)) (q_ld_b32_0_32 (by first | assumption | exact Seal.tag_len _ _ _)) (q_len_b32 (by first | assumption | exact Seal.tag_len _ _ _))) rfl rfl rfl H40 ?_
        clear H40; intro a41 H41
        refine plain (y_fieldB rfl z_field50_8 rfl (by first | (simp only [Nat.zero_add, Nat.add_zero, Nat.reduceAdd]; rfl) | rfl)) rfl rfl rfl H41 ?_
        clear H41; intro a42 H42
        refine st_storeN rfl z_size28 rfl rfl (agg_cells _) (by repeat (first | exact Uh | apply Ut)) q_one_b32 (q_len_b32 (by first | assumption | exact Seal.tag_len _ _ _)) (q_len_c8b32b32 (by first | assumption | exact Seal.tag_len _ _ _) (by first | assumption | exact Seal.tag_len _ _ _)) (q_spl_c8b32b32_8_b32 (by first | assumption | exact Seal.tag_len _ _ _) (by first | assumption | exact Seal.tag_len _ _ _)) (by decide) rfl rfl H42 ?_
        clear H42; intro wx43 H43
        refine fin ?_
        refine then_n ?_
        refine wp_seq ?_
        refine reg ?_
        refine plain (y_loadAB rfl z_agg50 z_size50 rfl (by repeat (first | exact Mh | apply Mt)) (q_ld_c8b32b32_0_72 (by first | assumption | exact Seal.tag_len _ _ _) (by first | assumption | exact Seal.tag_len _ _ _)) (q_len_c8b32b32 (by first | assumption | exact Seal.tag_len _ _ _) (by first | assumption | exact Seal.tag_len _ _ _))) rfl rfl rfl H43 ?_
        clear H43; intro a44 H44
        refine st_storeN rfl z_size50 rfl rfl (agg_cells _) (by repeat (first | exact Uh | apply Ut)) (q_one_c8b32b32 rfl rfl rfl rfl rfl rfl rfl rfl) (q_len_c8b32b32 (by first | assumption | exact Seal.tag_len _ _ _) (by first | assumption | exact Seal.tag_len _ _ _)) (q_len_c8b32b32 (by first | assumption | exact Seal.tag_len _ _ _) (by first | assumption | exact Seal.tag_len _ _ _)) (q_spl_c8b32b32_0_c8b32b32 (by first | assumption | exact Seal.tag_len _ _ _) (by first | assumption | exact Seal.tag_len _ _ _) (by first | assumption | exact Seal.tag_len _ _ _) (by first | assumption | exact Seal.tag_len _ _ _)) (by decide) rfl rfl H44 ?_
        clear H44; intro wx45 H45
        refine plain (y_assign rfl rfl) rfl rfl rfl H45 ?_
        clear H45; intro a46 H46
        refine fin ?_
        refine then_n ?_
        refine wp_ret ?_
        -- return 4
        refine retct rfl H46 rfl z_agg50 z_size50 (by repeat (first | exact Mh | apply Mt)) (q_len_c8b32b32 (by first | assumption | exact Seal.tag_len _ _ _) (by first | assumption | exact Seal.tag_len _ _ _)) rfl ?_
        first | (have hz := Txs.hand_err (who := who) hb1; exact ⟨_, [], rfl, ⟨by rw [hz]; rfl, rfl⟩, H46.sep.sub (List.nil_sublist _)⟩) | (have hz := Txs.hand_who hb2 hk1; exact ⟨_, [], rfl, ⟨by rw [hz]; rfl, rfl⟩, H46.sep.sub (List.nil_sublist _)⟩) | (have hz := Txs.hand_lane hb2 hk2 hl1; exact ⟨_, [], rfl, ⟨by rw [hz]; rfl, rfl⟩, H46.sep.sub (List.nil_sublist _)⟩) | (have hz := Txs.hand_ok hb2 hk2 hl2; exact ⟨_, [], rfl, ⟨by rw [hz]; rfl, rfl⟩, H46.sep.sub (List.nil_sublist _)⟩)

end Go.Proofs.YtaeahloenahelaaDoor.A_RHand

set_option linter.unusedVariables false
set_option linter.unusedSimpArgs false
namespace Go.Proofs.YtaeahloenahelaaDoor.A_Ln4
open Go.Sx Go.RowKit Go.Proofs.YtaeahloenahelaaDoor.A_Block Go.Proofs.YtaeahloenahelaaDoor.A_Sum Go.Proofs.YtaeahloenahelaaDoor.A_Ref Go.Proofs.YtaeahloenahelaaDoor.A_RSum Go.Proofs.YtaeahloenahelaaDoor.A_Ln1 Go.Proofs.YtaeahloenahelaaDoor.A_Ln2 Go.Proofs.YtaeahloenahelaaDoor.A_Ln3 Go.Proofs.YtaeahloenahelaaDoor.A_Tx Go.Proofs.YtaeahloenahelaaDoor.A_Body Go.Proofs.YtaeahloenahelaaDoor.A_RBody Go.Proofs.YtaeahloenahelaaDoor.A_RHand Go.Proofs.YtaeahloenahelaaDoor.A_Chk Go.Proofs.YtaeahloenahelaaDoor.A_Leaf Go.Proofs.YtaeahloenahelaaDoor.A_Key Go.Proofs.YtaeahloenahelaaDoor.A_Tag

theorem z_call17 : callB Tryd.prog 17 = true := by kernel_rfl
theorem z_call29 : callB Tryd.prog 29 = true := by kernel_rfl
theorem z_zeroN50 : zeroL Tryd.prog 50 = some ((.int .i64 0 :: (.int .i64 0 :: (.int .i64 0 :: (.int .i64 0 :: (.string ⟨#[]⟩ :: (.bool false :: (.int .i64 0 :: (.int .i64 0 :: ((List.replicate 32 (0 : UInt8)).map u8 ++ (List.replicate 32 (0 : UInt8)).map u8)))))))))) := by kernel_rfl
theorem z_places50 : placesB Tryd.prog 50 = some [(0, 1), (1, 1), (2, 1), (3, 1), (4, 1), (5, 1), (6, 1), (7, 1), (8, 32), (40, 32)] := by kernel_rfl
theorem q_len_c8b32b32 {a0 a1 a2 a3 a4 a5 a6 a7 : Value} {t8 t9 : List UInt8} (h8 : t8.length = 32) (h9 : t9.length = 32) : (a0 :: a1 :: a2 :: a3 :: a4 :: a5 :: a6 :: a7 :: (t8.map u8 ++ (t9.map u8))).length = 72 := (len_c (n := 71) (len_c (n := 70) (len_c (n := 69) (len_c (n := 68) (len_c (n := 67) (len_c (n := 66) (len_c (n := 65) (len_c (n := 64) (len_b (k := 32) (n := 32) h8 (len_e (k := 32) h9))))))))))
theorem q_spl_c8b32b32_5_c1 {a0 a1 a2 a3 a4 a5 a6 a7 : Value} {t8 t9 : List UInt8} {b0 : Value} : spl (a0 :: a1 :: a2 :: a3 :: a4 :: a5 :: a6 :: a7 :: (t8.map u8 ++ (t9.map u8))) 5 (b0 :: []) = a0 :: a1 :: a2 :: a3 :: a4 :: b0 :: a6 :: a7 :: (t8.map u8 ++ (t9.map u8)) := (spl_c (o := 4) (spl_c (o := 3) (spl_c (o := 2) (spl_c (o := 1) (spl_c (o := 0) spl_0)))))
theorem q_spl_c8b32b32_6_c1 {a0 a1 a2 a3 a4 a5 a6 a7 : Value} {t8 t9 : List UInt8} {b0 : Value} : spl (a0 :: a1 :: a2 :: a3 :: a4 :: a5 :: a6 :: a7 :: (t8.map u8 ++ (t9.map u8))) 6 (b0 :: []) = a0 :: a1 :: a2 :: a3 :: a4 :: a5 :: b0 :: a7 :: (t8.map u8 ++ (t9.map u8)) := (spl_c (o := 5) (spl_c (o := 4) (spl_c (o := 3) (spl_c (o := 2) (spl_c (o := 1) (spl_c (o := 0) spl_0))))))
theorem z_call52 : callB Tryd.prog 52 = true := by kernel_rfl
theorem z_size50 : sizeB Tryd.prog 50 = some 72 := by kernel_rfl
theorem q_one_c8b32b32 {a0 a1 a2 a3 a4 a5 a6 a7 : Value} {t8 t9 : List UInt8} (o0 : a0.oneCell' = true) (o1 : a1.oneCell' = true) (o2 : a2.oneCell' = true) (o3 : a3.oneCell' = true) (o4 : a4.oneCell' = true) (o5 : a5.oneCell' = true) (o6 : a6.oneCell' = true) (o7 : a7.oneCell' = true) : (a0 :: a1 :: a2 :: a3 :: a4 :: a5 :: a6 :: a7 :: (t8.map u8 ++ (t9.map u8))).all (·.oneCell') = true := (one_c o0 (one_c o1 (one_c o2 (one_c o3 (one_c o4 (one_c o5 (one_c o6 (one_c o7 (one_b (one_u8 _))))))))))
theorem q_spl_c8b32b32_0_c8b32b32 {a0 a1 a2 a3 a4 a5 a6 a7 : Value} {t8 t9 : List UInt8} {b0 b1 b2 b3 b4 b5 b6 b7 : Value} {s8 s9 : List UInt8} (h8 : t8.length = 32) (h9 : t9.length = 32) (g8 : s8.length = 32) (g9 : s9.length = 32) : spl (a0 :: a1 :: a2 :: a3 :: a4 :: a5 :: a6 :: a7 :: (t8.map u8 ++ (t9.map u8))) 0 (b0 :: b1 :: b2 :: b3 :: b4 :: b5 :: b6 :: b7 :: (s8.map u8 ++ (s9.map u8))) = b0 :: b1 :: b2 :: b3 :: b4 :: b5 :: b6 :: b7 :: (s8.map u8 ++ (s9.map u8)) := (spl_a (z := 72) (len_c (n := 71) (len_c (n := 70) (len_c (n := 69) (len_c (n := 68) (len_c (n := 67) (len_c (n := 66) (len_c (n := 65) (len_c (n := 64) (len_b (k := 32) (n := 32) h8 (len_e (k := 32) h9)))))))))) (len_c (n := 71) (len_c (n := 70) (len_c (n := 69) (len_c (n := 68) (len_c (n := 67) (len_c (n := 66) (len_c (n := 65) (len_c (n := 64) (len_b (k := 32) (n := 32) g8 (len_e (k := 32) g9)))))))))))
theorem z_call19 : callB Tryd.prog 19 = true := by kernel_rfl
theorem z_agg50 : aggB Tryd.prog 50 = some true := by kernel_rfl
theorem q_ld_c8b32b32_0_72 {a0 a1 a2 a3 a4 a5 a6 a7 : Value} {t8 t9 : List UInt8} (h8 : t8.length = 32) (h9 : t9.length = 32) : ((a0 :: a1 :: a2 :: a3 :: a4 :: a5 :: a6 :: a7 :: (t8.map u8 ++ (t9.map u8))).drop 0).take 72 = a0 :: a1 :: a2 :: a3 :: a4 :: a5 :: a6 :: a7 :: (t8.map u8 ++ (t9.map u8)) := (ld_a (len_c (n := 71) (len_c (n := 70) (len_c (n := 69) (len_c (n := 68) (len_c (n := 67) (len_c (n := 66) (len_c (n := 65) (len_c (n := 64) (len_b (k := 32) (n := 32) h8 (len_e (k := 32) h9)))))))))))
theorem z_call28 : callB Tryd.prog 28 = true := by kernel_rfl
theorem z_call27 : callB Tryd.prog 27 = true := by kernel_rfl

set_option maxRecDepth 100000 in
set_option maxHeartbeats 4000000 in
theorem lawake16 {w : World} (hG : Glob 0 Sha.K w) : Calls Tryd.prog 18 #[] w (Gives (.bool true) [] w) := by
  have whd := Lane.awU_wf.hand
  have wtg := Lane.awU_wf.tag
  have htd := Lane.awT_wf.hand
  have lz32 : (List.replicate 32 (0 : UInt8)).length = 32 := List.length_replicate
  have lz0 := Lane.awU_wf.hand
  refine enterL (args := []) Tryd.func18 rfl rfl (l := []) (Sep.refl _) ?_
  intro a0 H0
  refine wp_seq ?_
  refine reg ?_
  refine plain (y_assign rfl rfl) rfl rfl rfl H0 ?_
  clear H0; intro a1 H1
  refine fin ?_
  refine then_n ?_
  refine wp_seq ?_
  refine reg ?_
  refine st_call rfl z_call17 rfl rfl rfl rfl H1 (lnew 10 (by decide) _) ?_
  clear H1; intro v2 l2 a2 wx2 hf2 H2
  obtain ⟨b, h, u, rfl, rfl⟩ := hf2
  simp only [List.cons_append, List.nil_append] at H2
  refine plain (y_move rfl rfl) rfl rfl rfl H2 ?_
  clear H2; intro a3 H3
  refine plain (y_extract rfl rfl rfl) rfl rfl rfl H3 ?_
  clear H3; intro a4 H4
  refine plain (y_extract rfl rfl rfl) rfl rfl rfl H4 ?_
  clear H4; intro a5 H5
  refine plain (y_assign rfl rfl) rfl rfl rfl H5 ?_
  clear H5; intro a6 H6
  refine plain (y_assign rfl rfl) rfl rfl rfl H6 ?_
  clear H6; intro a7 H7
  refine fin ?_
  refine then_n ?_
  refine wp_seq ?_
  refine wp_seq ?_
  refine reg ?_
  refine plain (y_move rfl rfl) rfl rfl rfl H7 ?_
  clear H7; intro a8 H8
  refine plain (y_neq rfl rfl rfl) rfl rfl rfl H8 ?_
  clear H8; intro a9 H9
  refine plain (y_move rfl rfl) rfl rfl rfl H9 ?_
  clear H9; intro a10 H10
  have H12 := H10.know (d := 11) (v := .bool false) rfl (congrArg Value.bool (decide_eq_false (by decide)))
  clear H10
  refine plain (y_move rfl rfl) rfl rfl rfl H12 ?_
  clear H12; intro a13 H13
  refine plain (y_peql rfl Tryd.underlying39 rfl rfl) rfl rfl rfl H13 ?_
  clear H13; intro a14 H14
  refine plain (y_pick_f rfl rfl rfl) rfl rfl rfl H14 ?_
  clear H14; intro a15 H15
  refine plain (y_move rfl rfl) rfl rfl rfl H15 ?_
  clear H15; intro a16 H16
  have H18 := H16.know (d := 15) (v := .bool false) rfl (rfl)
  clear H16
  refine plain (y_move rfl rfl) rfl rfl rfl H18 ?_
  clear H18; intro a19 H19
  refine st_callk2 (is := [It.blk b 101 (Lane.lc 10 h u), It.mp h (Lane.hm []), It.mp u (fun _ => none)]) (enters_call rfl z_call29 rfl) rfl rfl rfl H19 (.cons (by repeat (first | exact Ph | apply Pt)) (.cons (by repeat (first | exact Ph | apply Pt)) (.cons (by repeat (first | exact Ph | apply Pt)) (.nil _)))) (fun hs => lset 10 [] (fun _ => none) 2 5 b h u hs) ?_
  clear H19; intro v20 l20 a20 wx20 hf20 H20
  rw [Lane.aw_set] at hf20
  obtain ⟨rfl, rfl⟩ := hf20
  simp only [List.cons_append, List.nil_append] at H20
  refine plain (y_neq rfl rfl rfl) rfl rfl rfl H20 ?_
  clear H20; intro a21 H21
  refine plain (y_pick_f rfl rfl rfl) rfl rfl rfl H21 ?_
  clear H21; intro a22 H22
  refine fin ?_
  refine then_n ?_
  refine cnd H22 rfl (fun hc23 => ?_) (fun hc23 => ?_) -- cond 1
  · (try simp only [decide_eq_true_eq, decide_eq_false_iff_not, Bool.not_eq_true', Bool.not_eq_false', Bool.and_eq_true, Bool.not_eq_true, Bool.not_eq_false] at hc23); (exfalso; exact hc23 rfl)
  · skip
    try simp only [decide_eq_true_eq, decide_eq_false_iff_not, Bool.not_eq_true', Bool.not_eq_false', Bool.and_eq_true, Bool.not_eq_true, Bool.not_eq_false] at hc23
    refine wp_skip ?_
    refine then_n ?_
    refine wp_seq ?_
    refine reg ?_
    refine plain (y_build rfl z_zeroN50 z_places50 rfl (lay_1 (off := 5) (n := 72) rfl (q_len_c8b32b32 (by assumption) (by assumption)) (by decide) q_spl_c8b32b32_5_c1 (lay_1 (off := 6) (n := 72) rfl (q_len_c8b32b32 (by assumption) (by assumption)) (by decide) q_spl_c8b32b32_6_c1 lay_n (by rfl)) (by rfl))) rfl rfl rfl H22 ?_
    clear H22; intro a24 H24
    refine st_callg rfl z_call52 rfl rfl rfl rfl H24 (show Calls Tryd.prog 52 #[.agg (Txs.Tx.cells Lane.awT).toArray, .int .i64 5] _ (Gives (.tuple #[.agg (Txs.Tx.cells Lane.awU).toArray, .int .i64 (Txs.hand Lane.awT 5).2]) [] _) from rhand Lane.awT Lane.awT_wf 5 ⟨by decide, by decide⟩ _) ?_
    clear H24; intro a25 wx25 H25
    refine plain (y_move rfl rfl) rfl rfl rfl H25 ?_
    clear H25; intro a26 H26
    refine plain (y_extract rfl rfl rfl) rfl rfl rfl H26 ?_
    clear H26; intro a27 H27
    refine plain (y_extract rfl rfl rfl) rfl rfl rfl H27 ?_
    clear H27; intro a28 H28
    refine st_alloc rfl z_zeroN50 rfl rfl rfl H28 ?_
    clear H28; intro b29 a29 wx29 H29
    refine st_storeN rfl z_size50 rfl rfl (agg_cells _) (by repeat (first | exact Uh | apply Ut)) (q_one_c8b32b32 rfl rfl rfl rfl rfl rfl rfl rfl) (q_len_c8b32b32 (by assumption) (by assumption)) (q_len_c8b32b32 (by assumption) (by assumption)) (q_spl_c8b32b32_0_c8b32b32 (by assumption) (by assumption) (by assumption) (by assumption)) (by decide) rfl rfl H29 ?_
    clear H29; intro wx30 H30
    refine plain (y_assign rfl rfl) rfl rfl rfl H30 ?_
    clear H30; intro a31 H31
    refine fin ?_
    refine then_n ?_
    refine wp_seq ?_
    refine reg ?_
    refine plain (y_move rfl rfl) rfl rfl rfl H31 ?_
    clear H31; intro a32 H32
    refine st_callg rfl z_call19 rfl rfl rfl rfl H32 (lround 10 25 (by decide) ⟨by decide, by decide⟩ b h u (H32.sep.all _ (by repeat (first | exact Mh | apply Mt)))) ?_
    clear H32; intro a33 wx33 H33
    refine plain (y_eql rfl rfl rfl) rfl rfl rfl H33 ?_
    clear H33; intro a34 H34
    refine plain (y_move rfl rfl) rfl rfl rfl H34 ?_
    clear H34; intro a35 H35
    have H37 := H35.know (d := 28) (v := .bool true) rfl (congrArg Value.bool (decide_eq_true (by first | exact Lane.aw_take | exact Lane.aw_againP | rfl)))
    clear H35
    refine plain (y_move rfl rfl) rfl rfl rfl H37 ?_
    clear H37; intro a38 H38
    refine plain (y_loadAB rfl z_agg50 z_size50 rfl (by repeat (first | exact Mh | apply Mt)) (q_ld_c8b32b32_0_72 (by assumption) (by assumption)) (q_len_c8b32b32 (by assumption) (by assumption))) rfl rfl rfl H38 ?_
    clear H38; intro a39 H39
    refine st_callk2 (is := [It.blk b 101 (Lane.lc 10 h u), It.mp h (Lane.hm Lane.awL.L), It.mp u (fun _ => none)]) (enters_call rfl z_call28 rfl) rfl rfl rfl H39 (.cons (by repeat (first | exact Ph | apply Pt)) (.cons (by repeat (first | exact Ph | apply Pt)) (.cons (by repeat (first | exact Ph | apply Pt)) (.nil _)))) (fun hs => ltake 10 Lane.awL.L (fun _ => none) Lane.aw_good Lane.aw_turns Lane.awU Lane.awU_wf 25 ⟨by decide, by decide⟩ b h u hs (hG.frm H39.sep.frm (by simp)) (fps_new H39.sep (.cons (by repeat (first | exact Ph | apply Pt)) (.cons (by repeat (first | exact Ph | apply Pt)) (.cons (by repeat (first | exact Ph | apply Pt)) (.nil _)))) hG (by decide))) ?_
    clear H39; intro v40 l40 a40 wx40 hf40 H40
    obtain ⟨rfl, f1, hT1, rfl⟩ := hf40
    simp only [List.cons_append, List.nil_append] at H40
    refine plain (y_eql rfl rfl rfl) rfl rfl rfl H40 ?_
    clear H40; intro a41 H41
    refine plain (y_pick_t rfl rfl rfl) rfl rfl rfl H41 ?_
    clear H41; intro a42 H42
    refine plain (y_move rfl rfl) rfl rfl rfl H42 ?_
    clear H42; intro a43 H43
    have H45 := H43.know (d := 34) (v := .bool true) rfl (congrArg Value.bool (decide_eq_true (by first | exact Lane.aw_take | exact Lane.aw_againP | rfl)))
    clear H43
    refine plain (y_move rfl rfl) rfl rfl rfl H45 ?_
    clear H45; intro a46 H46
    refine plain (y_loadAB rfl z_agg50 z_size50 rfl (by repeat (first | exact Mh | apply Mt)) (q_ld_c8b32b32_0_72 (by assumption) (by assumption)) (q_len_c8b32b32 (by assumption) (by assumption))) rfl rfl rfl H46 ?_
    clear H46; intro a47 H47
    refine st_callk2 (is := [It.blk b 101 (Lane.lc 10 h u), It.mp h (Lane.hm Lane.awL1), It.mp u f1]) (enters_call rfl z_call28 rfl) rfl rfl rfl H47 (.cons (by repeat (first | exact Ph | apply Pt)) (.cons (by repeat (first | exact Ph | apply Pt)) (.cons (by repeat (first | exact Ph | apply Pt)) (.nil _)))) (fun hs => ltake 10 Lane.awL1 f1 Lane.aw_good1 hT1 Lane.awU Lane.awU_wf 25 ⟨by decide, by decide⟩ b h u hs (hG.frm H47.sep.frm (by simp)) (fps_new H47.sep (.cons (by repeat (first | exact Ph | apply Pt)) (.cons (by repeat (first | exact Ph | apply Pt)) (.cons (by repeat (first | exact Ph | apply Pt)) (.nil _)))) hG (by decide))) ?_
    clear H47; intro v48 l48 a48 wx48 hf48 H48
    obtain ⟨rfl, f2, hT2, rfl⟩ := hf48
    simp only [List.cons_append, List.nil_append] at H48
    refine plain (y_eql rfl rfl rfl) rfl rfl rfl H48 ?_
    clear H48; intro a49 H49
    refine plain (y_pick_t rfl rfl rfl) rfl rfl rfl H49 ?_
    clear H49; intro a50 H50
    refine plain (y_move rfl rfl) rfl rfl rfl H50 ?_
    clear H50; intro a51 H51
    have H53 := H51.know (d := 40) (v := .bool true) rfl (congrArg Value.bool (decide_eq_true (by first | exact Lane.aw_take | exact Lane.aw_againP | rfl)))
    clear H51
    refine plain (y_move rfl rfl) rfl rfl rfl H53 ?_
    clear H53; intro a54 H54
    refine plain (y_loadAB rfl z_agg50 z_size50 rfl (by repeat (first | exact Mh | apply Mt)) (q_ld_c8b32b32_0_72 (by assumption) (by assumption)) (q_len_c8b32b32 (by assumption) (by assumption))) rfl rfl rfl H54 ?_
    clear H54; intro a55 H55
    refine st_callg rfl z_call27 rfl rfl rfl rfl H55 (lcheck 10 Lane.awL2 f2 Lane.aw_good2 hT2 Lane.awU Lane.awU_wf 30 ⟨by decide, by decide⟩ b h u (H55.sep.all _ (by repeat (first | exact Mh | apply Mt))) (H55.sep.all _ (by repeat (first | exact Mh | apply Mt))) (H55.sep.all _ (by repeat (first | exact Mh | apply Mt))) (hG.frm H55.sep.frm (by simp))) ?_
    clear H55; intro a56 wx56 H56
    refine plain (y_eql rfl rfl rfl) rfl rfl rfl H56 ?_
    clear H56; intro a57 H57
    refine plain (y_pick_t rfl rfl rfl) rfl rfl rfl H57 ?_
    clear H57; intro a58 H58
    refine plain (y_assign rfl rfl) rfl rfl rfl H58 ?_
    clear H58; intro a59 H59
    refine fin ?_
    refine then_n ?_
    refine wp_ret ?_
    -- return 1
    refine ret1 rfl H59 rfl ?_
    exact ⟨_, [], rfl, ⟨congrArg Value.bool (decide_eq_true Lane.aw_lateP), rfl⟩, H59.sep.sub (List.nil_sublist _)⟩

end Go.Proofs.YtaeahloenahelaaDoor.A_Ln4

set_option linter.unusedVariables false
set_option linter.unusedSimpArgs false
namespace Go.Proofs.YtaeahloenahelaaDoor.A_L5
open Go.Sx Go.RowKit Go.Proofs.YtaeahloenahelaaDoor.A_Block Go.Proofs.YtaeahloenahelaaDoor.A_Sum Go.Proofs.YtaeahloenahelaaDoor.A_Ref Go.Proofs.YtaeahloenahelaaDoor.A_RSum Go.Proofs.YtaeahloenahelaaDoor.A_Ln1 Go.Proofs.YtaeahloenahelaaDoor.A_Ln2 Go.Proofs.YtaeahloenahelaaDoor.A_Ln3 Go.Proofs.YtaeahloenahelaaDoor.A_Tx Go.Proofs.YtaeahloenahelaaDoor.A_Body Go.Proofs.YtaeahloenahelaaDoor.A_RBody Go.Proofs.YtaeahloenahelaaDoor.A_RHand Go.Proofs.YtaeahloenahelaaDoor.A_Chk Go.Proofs.YtaeahloenahelaaDoor.A_Leaf Go.Proofs.YtaeahloenahelaaDoor.A_Key Go.Proofs.YtaeahloenahelaaDoor.A_Tag Go.Proofs.YtaeahloenahelaaDoor.A_Ln4

theorem z_field52_1 : fieldB Tryd.prog 52 1 = some 1 := by kernel_rfl
theorem z_agg3 : aggB Tryd.prog 3 = some false := by kernel_rfl
theorem q_ix_c15b32b32_1 {a0 a1 a2 a3 a4 a5 a6 a7 a8 a9 a10 a11 a12 a13 a14 : Value} {t15 t16 : List UInt8} : (a0 :: a1 :: a2 :: a3 :: a4 :: a5 :: a6 :: a7 :: a8 :: a9 :: a10 :: a11 :: a12 :: a13 :: a14 :: (t15.map u8 ++ (t16.map u8)))[1]? = some a1 := (ix_c (o := 0) ix_0)
theorem z_call23 : callB Tryd.prog 23 = true := by kernel_rfl
theorem z_call18 : callB Tryd.prog 18 = true := by kernel_rfl
theorem z_field52_2 : fieldB Tryd.prog 52 2 = some 2 := by kernel_rfl
theorem q_ix_c15b32b32_2 {a0 a1 a2 a3 a4 a5 a6 a7 a8 a9 a10 a11 a12 a13 a14 : Value} {t15 t16 : List UInt8} : (a0 :: a1 :: a2 :: a3 :: a4 :: a5 :: a6 :: a7 :: a8 :: a9 :: a10 :: a11 :: a12 :: a13 :: a14 :: (t15.map u8 ++ (t16.map u8)))[2]? = some a2 := (ix_c (o := 1) (ix_c (o := 0) ix_0))
theorem z_call29 : callB Tryd.prog 29 = true := by kernel_rfl
theorem z_field52_3 : fieldB Tryd.prog 52 3 = some 3 := by kernel_rfl
theorem q_ix_c15b32b32_3 {a0 a1 a2 a3 a4 a5 a6 a7 a8 a9 a10 a11 a12 a13 a14 : Value} {t15 t16 : List UInt8} : (a0 :: a1 :: a2 :: a3 :: a4 :: a5 :: a6 :: a7 :: a8 :: a9 :: a10 :: a11 :: a12 :: a13 :: a14 :: (t15.map u8 ++ (t16.map u8)))[3]? = some a3 := (ix_c (o := 2) (ix_c (o := 1) (ix_c (o := 0) ix_0)))
theorem z_field52_4 : fieldB Tryd.prog 52 4 = some 4 := by kernel_rfl
theorem q_ix_c15b32b32_4 {a0 a1 a2 a3 a4 a5 a6 a7 a8 a9 a10 a11 a12 a13 a14 : Value} {t15 t16 : List UInt8} : (a0 :: a1 :: a2 :: a3 :: a4 :: a5 :: a6 :: a7 :: a8 :: a9 :: a10 :: a11 :: a12 :: a13 :: a14 :: (t15.map u8 ++ (t16.map u8)))[4]? = some a4 := (ix_c (o := 3) (ix_c (o := 2) (ix_c (o := 1) (ix_c (o := 0) ix_0))))
theorem z_call30 : callB Tryd.prog 30 = true := by kernel_rfl
theorem z_field52_7 : fieldB Tryd.prog 52 7 = some 7 := by kernel_rfl
theorem z_agg50 : aggB Tryd.prog 50 = some true := by kernel_rfl
theorem z_size50 : sizeB Tryd.prog 50 = some 72 := by kernel_rfl
theorem q_ld_c15b32b32_7_72 {a0 a1 a2 a3 a4 a5 a6 a7 a8 a9 a10 a11 a12 a13 a14 : Value} {t15 t16 : List UInt8} (h15 : t15.length = 32) (h16 : t16.length = 32) : ((a0 :: a1 :: a2 :: a3 :: a4 :: a5 :: a6 :: a7 :: a8 :: a9 :: a10 :: a11 :: a12 :: a13 :: a14 :: (t15.map u8 ++ (t16.map u8))).drop 7).take 72 = a7 :: a8 :: a9 :: a10 :: a11 :: a12 :: a13 :: a14 :: (t15.map u8 ++ (t16.map u8)) := (ld_c (o := 6) (ld_c (o := 5) (ld_c (o := 4) (ld_c (o := 3) (ld_c (o := 2) (ld_c (o := 1) (ld_c (o := 0) (ld_a (len_c (n := 71) (len_c (n := 70) (len_c (n := 69) (len_c (n := 68) (len_c (n := 67) (len_c (n := 66) (len_c (n := 65) (len_c (n := 64) (len_b (k := 32) (n := 32) h15 (len_e (k := 32) h16))))))))))))))))))
theorem q_len_c8b32b32 {a0 a1 a2 a3 a4 a5 a6 a7 : Value} {t8 t9 : List UInt8} (h8 : t8.length = 32) (h9 : t9.length = 32) : (a0 :: a1 :: a2 :: a3 :: a4 :: a5 :: a6 :: a7 :: (t8.map u8 ++ (t9.map u8))).length = 72 := (len_c (n := 71) (len_c (n := 70) (len_c (n := 69) (len_c (n := 68) (len_c (n := 67) (len_c (n := 66) (len_c (n := 65) (len_c (n := 64) (len_b (k := 32) (n := 32) h8 (len_e (k := 32) h9))))))))))
theorem z_call27 : callB Tryd.prog 27 = true := by kernel_rfl
theorem z_call28 : callB Tryd.prog 28 = true := by kernel_rfl
theorem z_call25 : callB Tryd.prog 25 = true := by kernel_rfl
theorem z_call19 : callB Tryd.prog 19 = true := by kernel_rfl

set_option maxRecDepth 100000 in
set_option maxHeartbeats 4000000 in
theorem laneNone (c : Lane.Act) (wc : Lane.Act.Wf c) {w : World} (hG : Glob 0 Sha.K w) : Calls Tryd.prog 9 #[.agg (Lane.Act.cells c).toArray] w (Gives (.bool true) [] w) := by
  have whd := wc.tx.hand
  have wtg := wc.tx.tag
  have lz32 : (List.replicate 32 (0 : UInt8)).length = 32 := List.length_replicate
  have lz0 := wc.tx.hand
  have lz1 := wc.tx.tag
  refine enterL (args := [.agg (Lane.Act.cells c).toArray]) Tryd.func9 rfl rfl (l := []) (Sep.refl _) ?_
  intro a0 H0
  refine wp_seq ?_
  refine reg ?_
  refine st_box rfl rfl (agg_cells _) rfl rfl rfl H0 ?_
  clear H0; intro b1 a1 wx1 H1
  refine plain (y_assign rfl rfl) rfl rfl rfl H1 ?_
  clear H1; intro a2 H2
  refine fin ?_
  refine then_n ?_
  refine wp_seq ?_
  refine reg ?_
  refine plain (y_assign rfl rfl) rfl rfl rfl H2 ?_
  clear H2; intro a3 H3
  refine fin ?_
  refine then_n ?_
  refine wp_seq ?_
  refine reg ?_
  refine plain (y_move rfl rfl) rfl rfl rfl H3 ?_
  clear H3; intro a4 H4
  refine plain (y_fieldB rfl z_field52_1 rfl (by first | (simp only [Nat.zero_add, Nat.add_zero, Nat.reduceAdd]; rfl) | rfl)) rfl rfl rfl H4 ?_
  clear H4; intro a5 H5
  refine plain (y_loadB rfl z_agg3 rfl (by repeat (first | exact Mh | apply Mt)) q_ix_c15b32b32_1) rfl rfl rfl H5 ?_
  clear H5; intro a6 H6
  refine st_callg rfl z_call23 rfl rfl rfl rfl H6 (lholderN c.round _) ?_
  clear H6; intro a7 wx7 H7
  refine plain (y_move rfl rfl) rfl rfl rfl H7 ?_
  clear H7; intro a8 H8
  refine plain (y_extract rfl rfl rfl) rfl rfl rfl H8 ?_
  clear H8; intro a9 H9
  refine plain (y_extract rfl rfl rfl) rfl rfl rfl H9 ?_
  clear H9; intro a10 H10
  refine plain (y_assign rfl rfl) rfl rfl rfl H10 ?_
  clear H10; intro a11 H11
  refine plain (y_assign rfl rfl) rfl rfl rfl H11 ?_
  clear H11; intro a12 H12
  refine fin ?_
  refine then_n ?_
  refine wp_seq ?_
  refine qreg (by kernel_rfl) (by kernel_rfl) H12 ?_
  have F13 := H12.fr
  clear H12
  refine qcallg rfl z_call18 rfl rfl rfl rfl F13 (fun w hs => (lawake16 (hG.frm hs.frm (by simp)))) ?_
  clear F13; intro a14 H14
  refine qplain (y_move rfl rfl) rfl rfl rfl H14 ?_
  clear H14; intro a15 H15
  refine qplain (y_move rfl rfl) rfl rfl rfl H15 ?_
  clear H15; intro a16 H16
  refine qplain (y_eql rfl rfl rfl) rfl rfl rfl H16 ?_
  clear H16; intro a17 H17
  refine qplain (y_pick_t rfl rfl rfl) rfl rfl rfl H17 ?_
  clear H17; intro a18 H18
  refine qplain (y_move rfl rfl) rfl rfl rfl H18 ?_
  clear H18; intro a19 H19
  have H21 := H19.know (d := 18) (v := .bool true) rfl ((by first | rfl | exact congrArg Value.bool (decide_eq_true rfl)))
  clear H19
  refine qplain (y_move rfl rfl) rfl rfl rfl H21 ?_
  clear H21; intro a22 H22
  refine qplain ((by first | exact y_not_d rfl rfl | exact y_not rfl rfl)) rfl rfl rfl H22 ?_
  clear H22; intro a23 H23
  refine qplain (y_pick_t rfl rfl rfl) rfl rfl rfl H23 ?_
  clear H23; intro a24 H24
  refine qplain (y_move rfl rfl) rfl rfl rfl H24 ?_
  clear H24; intro a25 H25
  have H27 := H25.know (d := 22) (v := .bool true) rfl ((by first | rfl | exact congrArg Value.bool (decide_eq_true rfl)))
  clear H25
  refine qplain (y_move rfl rfl) rfl rfl rfl H27 ?_
  clear H27; intro a28 H28
  refine qplain (y_fieldB rfl z_field52_1 rfl (by first | (simp only [Nat.zero_add, Nat.add_zero, Nat.reduceAdd]; rfl) | rfl)) rfl rfl rfl H28 ?_
  clear H28; intro a29 H29
  refine qplain (y_loadB rfl z_agg3 rfl (by repeat (first | exact Mh | apply Mt)) q_ix_c15b32b32_1) rfl rfl rfl H29 ?_
  clear H29; intro a30 H30
  refine qplain (y_fieldB rfl z_field52_2 rfl (by first | (simp only [Nat.zero_add, Nat.add_zero, Nat.reduceAdd]; rfl) | rfl)) rfl rfl rfl H30 ?_
  clear H30; intro a31 H31
  refine qplain (y_loadB rfl z_agg3 rfl (by repeat (first | exact Mh | apply Mt)) q_ix_c15b32b32_2) rfl rfl rfl H31 ?_
  clear H31; intro a32 H32
  refine qcallg rfl z_call29 rfl rfl rfl rfl H32 (fun w hs => (lsetN c.round c.a _)) ?_
  clear H32; intro a33 H33
  refine qplain (y_eql rfl rfl rfl) rfl rfl rfl H33 ?_
  clear H33; intro a34 H34
  refine qplain (y_pick_t rfl rfl rfl) rfl rfl rfl H34 ?_
  clear H34; intro a35 H35
  refine qplain (y_move rfl rfl) rfl rfl rfl H35 ?_
  clear H35; intro a36 H36
  have H38 := H36.know (d := 31) (v := .bool true) rfl ((by first | rfl | exact congrArg Value.bool (decide_eq_true rfl)))
  clear H36
  refine qplain (y_move rfl rfl) rfl rfl rfl H38 ?_
  clear H38; intro a39 H39
  refine qplain (y_fieldB rfl z_field52_1 rfl (by first | (simp only [Nat.zero_add, Nat.add_zero, Nat.reduceAdd]; rfl) | rfl)) rfl rfl rfl H39 ?_
  clear H39; intro a40 H40
  refine qplain (y_loadB rfl z_agg3 rfl (by repeat (first | exact Mh | apply Mt)) q_ix_c15b32b32_1) rfl rfl rfl H40 ?_
  clear H40; intro a41 H41
  refine qplain (y_fieldB rfl z_field52_2 rfl (by first | (simp only [Nat.zero_add, Nat.add_zero, Nat.reduceAdd]; rfl) | rfl)) rfl rfl rfl H41 ?_
  clear H41; intro a42 H42
  refine qplain (y_loadB rfl z_agg3 rfl (by repeat (first | exact Mh | apply Mt)) q_ix_c15b32b32_2) rfl rfl rfl H42 ?_
  clear H42; intro a43 H43
  refine qplain (y_fieldB rfl z_field52_3 rfl (by first | (simp only [Nat.zero_add, Nat.add_zero, Nat.reduceAdd]; rfl) | rfl)) rfl rfl rfl H43 ?_
  clear H43; intro a44 H44
  refine qplain (y_loadB rfl z_agg3 rfl (by repeat (first | exact Mh | apply Mt)) q_ix_c15b32b32_3) rfl rfl rfl H44 ?_
  clear H44; intro a45 H45
  refine qplain (y_fieldB rfl z_field52_4 rfl (by first | (simp only [Nat.zero_add, Nat.add_zero, Nat.reduceAdd]; rfl) | rfl)) rfl rfl rfl H45 ?_
  clear H45; intro a46 H46
  refine qplain (y_loadB rfl z_agg3 rfl (by repeat (first | exact Mh | apply Mt)) q_ix_c15b32b32_4) rfl rfl rfl H46 ?_
  clear H46; intro a47 H47
  refine qcallg rfl z_call30 rfl rfl rfl rfl H47 (fun w hs => (lgiveN c.round c.a c.b c.now _)) ?_
  clear H47; intro a48 H48
  refine qplain (y_eql rfl rfl rfl) rfl rfl rfl H48 ?_
  clear H48; intro a49 H49
  refine qplain (y_pick_t rfl rfl rfl) rfl rfl rfl H49 ?_
  clear H49; intro a50 H50
  refine qplain (y_move rfl rfl) rfl rfl rfl H50 ?_
  clear H50; intro a51 H51
  have H53 := H51.know (d := 44) (v := .bool true) rfl ((by first | rfl | exact congrArg Value.bool (decide_eq_true rfl)))
  clear H51
  refine qplain (y_move rfl rfl) rfl rfl rfl H53 ?_
  clear H53; intro a54 H54
  refine qplain (y_fieldB rfl z_field52_7 rfl (by first | (simp only [Nat.zero_add, Nat.add_zero, Nat.reduceAdd]; rfl) | rfl)) rfl rfl rfl H54 ?_
  clear H54; intro a55 H55
  refine qplain (y_loadAB rfl z_agg50 z_size50 rfl (by repeat (first | exact Mh | apply Mt)) (q_ld_c15b32b32_7_72 (by assumption) (by assumption)) (q_len_c8b32b32 (by assumption) (by assumption))) rfl rfl rfl H55 ?_
  clear H55; intro a56 H56
  refine qplain (y_fieldB rfl z_field52_4 rfl (by first | (simp only [Nat.zero_add, Nat.add_zero, Nat.reduceAdd]; rfl) | rfl)) rfl rfl rfl H56 ?_
  clear H56; intro a57 H57
  refine qplain (y_loadB rfl z_agg3 rfl (by repeat (first | exact Mh | apply Mt)) q_ix_c15b32b32_4) rfl rfl rfl H57 ?_
  clear H57; intro a58 H58
  refine qcallg rfl z_call27 rfl rfl rfl rfl H58 (fun w hs => (lcheckN c.tx wc.tx c.now _)) ?_
  clear H58; intro a59 H59
  refine qplain (y_eql rfl rfl rfl) rfl rfl rfl H59 ?_
  clear H59; intro a60 H60
  refine qplain (y_pick_t rfl rfl rfl) rfl rfl rfl H60 ?_
  clear H60; intro a61 H61
  refine qplain (y_move rfl rfl) rfl rfl rfl H61 ?_
  clear H61; intro a62 H62
  have H64 := H62.know (d := 53) (v := .bool true) rfl ((by first | rfl | exact congrArg Value.bool (decide_eq_true rfl)))
  clear H62
  refine qplain (y_move rfl rfl) rfl rfl rfl H64 ?_
  clear H64; intro a65 H65
  refine qplain (y_fieldB rfl z_field52_7 rfl (by first | (simp only [Nat.zero_add, Nat.add_zero, Nat.reduceAdd]; rfl) | rfl)) rfl rfl rfl H65 ?_
  clear H65; intro a66 H66
  refine qplain (y_loadAB rfl z_agg50 z_size50 rfl (by repeat (first | exact Mh | apply Mt)) (q_ld_c15b32b32_7_72 (by assumption) (by assumption)) (q_len_c8b32b32 (by assumption) (by assumption))) rfl rfl rfl H66 ?_
  clear H66; intro a67 H67
  refine qplain (y_fieldB rfl z_field52_4 rfl (by first | (simp only [Nat.zero_add, Nat.add_zero, Nat.reduceAdd]; rfl) | rfl)) rfl rfl rfl H67 ?_
  clear H67; intro a68 H68
  refine qplain (y_loadB rfl z_agg3 rfl (by repeat (first | exact Mh | apply Mt)) q_ix_c15b32b32_4) rfl rfl rfl H68 ?_
  clear H68; intro a69 H69
  refine qcallg rfl z_call28 rfl rfl rfl rfl H69 (fun w hs => (ltakeN c.tx wc.tx c.now _)) ?_
  clear H69; intro a70 H70
  refine qplain (y_eql rfl rfl rfl) rfl rfl rfl H70 ?_
  clear H70; intro a71 H71
  refine qplain (y_pick_t rfl rfl rfl) rfl rfl rfl H71 ?_
  clear H71; intro a72 H72
  refine qplain (y_move rfl rfl) rfl rfl rfl H72 ?_
  clear H72; intro a73 H73
  have H75 := H73.know (d := 62) (v := .bool true) rfl ((by first | rfl | exact congrArg Value.bool (decide_eq_true rfl)))
  clear H73
  refine qplain (y_move rfl rfl) rfl rfl rfl H75 ?_
  clear H75; intro a76 H76
  refine qplain (y_fieldB rfl z_field52_1 rfl (by first | (simp only [Nat.zero_add, Nat.add_zero, Nat.reduceAdd]; rfl) | rfl)) rfl rfl rfl H76 ?_
  clear H76; intro a77 H77
  refine qplain (y_loadB rfl z_agg3 rfl (by repeat (first | exact Mh | apply Mt)) q_ix_c15b32b32_1) rfl rfl rfl H77 ?_
  clear H77; intro a78 H78
  refine qcallg rfl z_call25 rfl rfl rfl rfl H78 (fun w hs => (lturnN c.round _)) ?_
  clear H78; intro a79 H79
  refine qplain (y_move rfl rfl) rfl rfl rfl H79 ?_
  clear H79; intro a80 H80
  refine qplain (y_fieldB rfl z_field52_4 rfl (by first | (simp only [Nat.zero_add, Nat.add_zero, Nat.reduceAdd]; rfl) | rfl)) rfl rfl rfl H80 ?_
  clear H80; intro a81 H81
  refine qplain (y_loadB rfl z_agg3 rfl (by repeat (first | exact Mh | apply Mt)) q_ix_c15b32b32_4) rfl rfl rfl H81 ?_
  clear H81; intro a82 H82
  refine qcallg rfl z_call19 rfl rfl rfl rfl H82 (fun w hs => (lroundN c.now _)) ?_
  clear H82; intro a83 H83
  refine qplain (y_add rfl rfl rfl (by first | exact w64 (by omega) (by omega) | rfl)) rfl rfl rfl H83 ?_
  clear H83; intro a84 H84
  refine qplain (y_eql rfl rfl rfl) rfl rfl rfl H84 ?_
  clear H84; intro a85 H85
  refine qplain (y_pick_t rfl rfl rfl) rfl rfl rfl H85 ?_
  clear H85; intro a86 H86
  refine qplain (y_assign rfl rfl) rfl rfl rfl H86 ?_
  clear H86; intro a87 H87
  refine qfin H87 ?_
  clear H87; intro wx88 H88
  refine then_n ?_
  refine wp_ret ?_
  -- return 1
  refine ret1 rfl H88 rfl ?_
  exact ⟨_, [], rfl, ⟨congrArg Value.bool (decide_eq_true (by decide)), rfl⟩, H88.sep.sub (List.nil_sublist _)⟩

end Go.Proofs.YtaeahloenahelaaDoor.A_L5

set_option linter.unusedVariables false
set_option linter.unusedSimpArgs false
namespace Go.Proofs.YtaeahloenahelaaDoor.A_RdL
open Go.Sx Go.RowKit

theorem rd_Tx {H : Type} {enc : TypeId × Value → H} {W : World} {sp : Nat → Bool} {held : Bool} {cs : List Value} (h : Trw enc Tryd.prog W sp held 50 cs) : ∃ (x : Txs.Tx), cs = Txs.Tx.cells x ∧ Txs.Tx.Wf x := by
  have hp := h.pieces Tryd.underlying50 [1, 1, 1, 1, 1, 1, 1, 1, 32, 32] (by kernel_rfl)
  obtain ⟨v0, e0, w0⟩ := (h.field Tryd.underlying50 0 rfl (o := 0) rfl (T := 3) rfl (k := 1) (by kernel_rfl)).i64 Tryd.underlying3
  obtain ⟨v1, e1, w1⟩ := (h.field Tryd.underlying50 1 rfl (o := 1) rfl (T := 3) rfl (k := 1) (by kernel_rfl)).i64 Tryd.underlying3
  obtain ⟨v2, e2, w2⟩ := (h.field Tryd.underlying50 2 rfl (o := 2) rfl (T := 3) rfl (k := 1) (by kernel_rfl)).i64 Tryd.underlying3
  obtain ⟨v3, e3, w3⟩ := (h.field Tryd.underlying50 3 rfl (o := 3) rfl (T := 3) rfl (k := 1) (by kernel_rfl)).i64 Tryd.underlying3
  obtain ⟨v4, e4, w4⟩ := (h.field Tryd.underlying50 4 rfl (o := 4) rfl (T := 9) rfl (k := 1) (by kernel_rfl)).str Tryd.underlying9
  obtain ⟨v5, e5⟩ := (h.field Tryd.underlying50 5 rfl (o := 5) rfl (T := 4) rfl (k := 1) (by kernel_rfl)).bool Tryd.underlying4
  obtain ⟨v6, e6, w6⟩ := (h.field Tryd.underlying50 6 rfl (o := 6) rfl (T := 3) rfl (k := 1) (by kernel_rfl)).i64 Tryd.underlying3
  obtain ⟨v7, e7, w7⟩ := (h.field Tryd.underlying50 7 rfl (o := 7) rfl (T := 3) rfl (k := 1) (by kernel_rfl)).i64 Tryd.underlying3
  obtain ⟨v8, e8, w8⟩ := (h.field Tryd.underlying50 8 rfl (o := 8) rfl (T := 28) rfl (k := 32) (by kernel_rfl)).bytes Tryd.underlying28 Tryd.underlying5 (by kernel_rfl) (by kernel_rfl)
  obtain ⟨v9, e9, w9⟩ := (h.field Tryd.underlying50 9 rfl (o := 40) rfl (T := 28) rfl (k := 32) (by kernel_rfl)).bytes Tryd.underlying28 Tryd.underlying5 (by kernel_rfl) (by kernel_rfl)
  refine ⟨⟨v0, v1, v2, v3, v4, v5, v6, v7, v8, v9⟩, ?_, w0, w1, w2, w3, w4, w6, w7, w8, w9⟩
  rw [hp]
  simp only [Sx.pieces, Nat.zero_add, Nat.reduceAdd, e0, e1, e2, e3, e4, e5, e6, e7, e8, e9]
  first | rfl | simp [Txs.Tx.cells]
theorem rd_Act {H : Type} {enc : TypeId × Value → H} {W : World} {sp : Nat → Bool} {held : Bool} {cs : List Value} (h : Trw enc Tryd.prog W sp held 52 cs) : ∃ (x : Lane.Act), cs = Lane.Act.cells x ∧ Lane.Act.Wf x := by
  have hp := h.pieces Tryd.underlying52 [1, 1, 1, 1, 1, 1, 1, 72] (by kernel_rfl)
  obtain ⟨v0, e0, w0⟩ := (h.field Tryd.underlying52 0 rfl (o := 0) rfl (T := 3) rfl (k := 1) (by kernel_rfl)).i64 Tryd.underlying3
  obtain ⟨v1, e1, w1⟩ := (h.field Tryd.underlying52 1 rfl (o := 1) rfl (T := 3) rfl (k := 1) (by kernel_rfl)).i64 Tryd.underlying3
  obtain ⟨v2, e2, w2⟩ := (h.field Tryd.underlying52 2 rfl (o := 2) rfl (T := 3) rfl (k := 1) (by kernel_rfl)).i64 Tryd.underlying3
  obtain ⟨v3, e3, w3⟩ := (h.field Tryd.underlying52 3 rfl (o := 3) rfl (T := 3) rfl (k := 1) (by kernel_rfl)).i64 Tryd.underlying3
  obtain ⟨v4, e4, w4⟩ := (h.field Tryd.underlying52 4 rfl (o := 4) rfl (T := 3) rfl (k := 1) (by kernel_rfl)).i64 Tryd.underlying3
  obtain ⟨v5, e5, w5⟩ := (h.field Tryd.underlying52 5 rfl (o := 5) rfl (T := 3) rfl (k := 1) (by kernel_rfl)).i64 Tryd.underlying3
  obtain ⟨v6, e6⟩ := (h.field Tryd.underlying52 6 rfl (o := 6) rfl (T := 4) rfl (k := 1) (by kernel_rfl)).bool Tryd.underlying4
  obtain ⟨v7, e7, w7⟩ := rd_Tx (h.field Tryd.underlying52 7 rfl (o := 7) rfl (T := 50) rfl (k := 72) (by kernel_rfl))
  refine ⟨⟨v0, v1, v2, v3, v4, v5, v6, v7⟩, ?_, w0, w1, w2, w3, w4, w5, w7⟩
  rw [hp]
  simp only [Sx.pieces, Nat.zero_add, Nat.reduceAdd, e0, e1, e2, e3, e4, e5, e6, e7]
  first | rfl | (simp [Lane.Act.cells]; rfl)

end Go.Proofs.YtaeahloenahelaaDoor.A_RdL
