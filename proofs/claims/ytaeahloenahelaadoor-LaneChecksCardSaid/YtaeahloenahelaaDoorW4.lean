/- Part of a proof about given Go functions: contracts of functions, or plain laws. -/
import Derived.Test.YtaeahloenahelaaDoorLaneV
import Derived.Test.YtaeahloenahelaaDoorSxI
import Derived.Test.YtaeahloenahelaaDoorSxN
import Derived.Test.YtaeahloenahelaaDoorSxK
import Derived.Test.YtaeahloenahelaaDoorSxM
import Derived.Test.YtaeahloenahelaaDoorProg
import Derived.Test.YtaeahloenahelaaDoorW3
import Derived.Test.YtaeahloenahelaaDoorW2
import Derived.Test.YtaeahloenahelaaDoorW1
set_option linter.unusedVariables false
set_option linter.unusedSimpArgs false
namespace Go.Proofs.YtaeahloenahelaaDoor.A_X3
open Go.Sx Go.RowKit Go.Proofs.YtaeahloenahelaaDoor.A_X1 Go.Proofs.YtaeahloenahelaaDoor.A_RBody Go.Proofs.YtaeahloenahelaaDoor.A_Tx Go.Proofs.YtaeahloenahelaaDoor.A_Tag

theorem z_agg50 : aggB Tryd.prog 50 = some true := by kernel_rfl
theorem z_size50 : sizeB Tryd.prog 50 = some 72 := by kernel_rfl
theorem q_ld_c8b32b32_0_72 {a0 a1 a2 a3 a4 a5 a6 a7 : Value} {t8 t9 : List UInt8} (h8 : t8.length = 32) (h9 : t9.length = 32) : ((a0 :: a1 :: a2 :: a3 :: a4 :: a5 :: a6 :: a7 :: (t8.map u8 ++ (t9.map u8))).drop 0).take 72 = a0 :: a1 :: a2 :: a3 :: a4 :: a5 :: a6 :: a7 :: (t8.map u8 ++ (t9.map u8)) := (ld_a (len_c (n := 71) (len_c (n := 70) (len_c (n := 69) (len_c (n := 68) (len_c (n := 67) (len_c (n := 66) (len_c (n := 65) (len_c (n := 64) (len_b (k := 32) (n := 32) h8 (len_e (k := 32) h9)))))))))))
theorem q_len_c8b32b32 {a0 a1 a2 a3 a4 a5 a6 a7 : Value} {t8 t9 : List UInt8} (h8 : t8.length = 32) (h9 : t9.length = 32) : (a0 :: a1 :: a2 :: a3 :: a4 :: a5 :: a6 :: a7 :: (t8.map u8 ++ (t9.map u8))).length = 72 := (len_c (n := 71) (len_c (n := 70) (len_c (n := 69) (len_c (n := 68) (len_c (n := 67) (len_c (n := 66) (len_c (n := 65) (len_c (n := 64) (len_b (k := 32) (n := 32) h8 (len_e (k := 32) h9))))))))))
theorem z_call77 : callB Tryd.prog 77 = true := by kernel_rfl
theorem z_field50_5 : fieldB Tryd.prog 50 5 = some 5 := by kernel_rfl
theorem z_agg4 : aggB Tryd.prog 4 = some false := by kernel_rfl
theorem q_ix_c8b32b32_5 {a0 a1 a2 a3 a4 a5 a6 a7 : Value} {t8 t9 : List UInt8} : (a0 :: a1 :: a2 :: a3 :: a4 :: a5 :: a6 :: a7 :: (t8.map u8 ++ (t9.map u8)))[5]? = some a5 := (ix_c (o := 4) (ix_c (o := 3) (ix_c (o := 2) (ix_c (o := 1) (ix_c (o := 0) ix_0)))))
theorem z_field50_6 : fieldB Tryd.prog 50 6 = some 6 := by kernel_rfl
theorem z_agg3 : aggB Tryd.prog 3 = some false := by kernel_rfl
theorem q_ix_c8b32b32_6 {a0 a1 a2 a3 a4 a5 a6 a7 : Value} {t8 t9 : List UInt8} : (a0 :: a1 :: a2 :: a3 :: a4 :: a5 :: a6 :: a7 :: (t8.map u8 ++ (t9.map u8)))[6]? = some a6 := (ix_c (o := 5) (ix_c (o := 4) (ix_c (o := 3) (ix_c (o := 2) (ix_c (o := 1) (ix_c (o := 0) ix_0))))))
theorem z_call22 : callB Tryd.prog 22 = true := by kernel_rfl
theorem z_call24 : callB Tryd.prog 24 = true := by kernel_rfl
theorem z_field60_1 : fieldB Tryd.prog 60 1 = some 1 := by kernel_rfl
theorem z_agg58 : aggB Tryd.prog 58 = some false := by kernel_rfl
theorem z_size57 : sizeB Tryd.prog 57 = some 3 := by kernel_rfl
theorem z_field57_1 : fieldB Tryd.prog 57 1 = some 1 := by kernel_rfl
theorem z_call76 : callB Tryd.prog 76 = true := by kernel_rfl
theorem z_zeroN28 : zeroL Tryd.prog 28 = some ((List.replicate 32 (0 : UInt8)).map u8) := by kernel_rfl
theorem z_size28 : sizeB Tryd.prog 28 = some 32 := by kernel_rfl
theorem q_one_b32 {t0 : List UInt8} : (t0.map u8).all (·.oneCell') = true := (one_u8 _)
theorem q_len_b32 {t0 : List UInt8} (h0 : t0.length = 32) : (t0.map u8).length = 32 := (len_e (k := 32) h0)
theorem q_spl_b32_0_b32 {t0 : List UInt8} {s0 : List UInt8} (h0 : t0.length = 32) (g0 : s0.length = 32) : spl (t0.map u8) 0 (s0.map u8) = s0.map u8 := (spl_a (z := 32) (len_e (k := 32) h0) (len_e (k := 32) g0))
theorem z_agg28 : aggB Tryd.prog 28 = some true := by kernel_rfl
theorem q_ld_b32_0_32 {t0 : List UInt8} (h0 : t0.length = 32) : ((t0.map u8).drop 0).take 32 = t0.map u8 := (ld_a (len_e (k := 32) h0))
theorem z_field50_8 : fieldB Tryd.prog 50 8 = some 8 := by kernel_rfl
theorem q_ld_c8b32b32_8_32 {a0 a1 a2 a3 a4 a5 a6 a7 : Value} {t8 t9 : List UInt8} (h8 : t8.length = 32) : ((a0 :: a1 :: a2 :: a3 :: a4 :: a5 :: a6 :: a7 :: (t8.map u8 ++ (t9.map u8))).drop 8).take 32 = t8.map u8 := (ld_c (o := 7) (ld_c (o := 6) (ld_c (o := 5) (ld_c (o := 4) (ld_c (o := 3) (ld_c (o := 2) (ld_c (o := 1) (ld_c (o := 0) (ld_h h8)))))))))
theorem z_size5 : sizeB Tryd.prog 5 = some 1 := by kernel_rfl
theorem z_field50_7 : fieldB Tryd.prog 50 7 = some 7 := by kernel_rfl
theorem q_ix_c8b32b32_7 {a0 a1 a2 a3 a4 a5 a6 a7 : Value} {t8 t9 : List UInt8} : (a0 :: a1 :: a2 :: a3 :: a4 :: a5 :: a6 :: a7 :: (t8.map u8 ++ (t9.map u8)))[7]? = some a7 := (ix_c (o := 6) (ix_c (o := 5) (ix_c (o := 4) (ix_c (o := 3) (ix_c (o := 2) (ix_c (o := 1) (ix_c (o := 0) ix_0)))))))
theorem z_field57_2 : fieldB Tryd.prog 57 2 = some 2 := by kernel_rfl
theorem z_call55 : callB Tryd.prog 55 = true := by kernel_rfl
theorem q_ix_c2_1 {a0 a1 : Value} : (a0 :: a1 :: [])[1]? = some a1 := (ix_c (o := 0) ix_0)
theorem z_zeroN57 : zeroL Tryd.prog 57 = some ((.int .i64 0 :: (.int .i64 0 :: (.int .i64 0 :: [])))) := by kernel_rfl
theorem z_places57 : placesB Tryd.prog 57 = some [(0, 1), (1, 1), (2, 1)] := by kernel_rfl
theorem q_len_c3 {a0 a1 a2 : Value} : (a0 :: a1 :: a2 :: []).length = 3 := (len_c (n := 2) (len_c (n := 1) (len_c (n := 0) len_n)))
theorem q_spl_c3_0_c1 {a0 a1 a2 : Value} {b0 : Value} : spl (a0 :: a1 :: a2 :: []) 0 (b0 :: []) = b0 :: a1 :: a2 :: [] := spl_0
theorem q_spl_c3_1_c1 {a0 a1 a2 : Value} {b0 : Value} : spl (a0 :: a1 :: a2 :: []) 1 (b0 :: []) = a0 :: b0 :: a2 :: [] := (spl_c (o := 0) spl_0)
theorem q_spl_c3_2_c1 {a0 a1 a2 : Value} {b0 : Value} : spl (a0 :: a1 :: a2 :: []) 2 (b0 :: []) = a0 :: a1 :: b0 :: [] := (spl_c (o := 1) (spl_c (o := 0) spl_0))

set_option maxRecDepth 100000 in
set_option maxHeartbeats 4000000 in
theorem xcheck (len : Int) (L : List Lane.Held) (hl : L.length ≤ 1000000) (hg : Lane.Good ⟨len, L⟩) (t : Txs.Tx) (wf : Txs.Tx.Wf t) (now : Int) (hnow : Note.I64 now) (x : Nat) (v : Value) {w : World} (hx : (It.blk x 60 [i64 len, v]).P w) (hr : (It.row 57 3 v L.length (Lane.hc L)).P w)  : Calls Tryd.prog 55 #[.pointer (some ⟨x, 0, none⟩), .agg (Txs.Tx.cells t).toArray, .int .i64 now] w (Gives (.int .i64 (Lane.check ⟨len, L⟩ t now)) [] w) := by
  obtain ⟨A, cc, rfl, hR, hmx⟩ := Row.rd hr
  have whd := wf.hand
  have wtg := wf.tag
  have hbl := Txs.body_len t
  have hbe := Txs.body_err t
  have lz32 : (List.replicate 32 (0 : UInt8)).length = 32 := List.length_replicate
  have lz0 := wf.hand
  have lz1 := wf.tag
  refine enterL (args := [.pointer (some ⟨x, 0, none⟩), .agg (Txs.Tx.cells t).toArray, .int .i64 now]) Tryd.func55 rfl rfl (l := []) (Sep.refl _) ?_
  intro a0 H0
  refine wp_seq ?_
  refine reg ?_
  refine st_box rfl rfl (agg_cells _) rfl rfl rfl H0 ?_
  clear H0; intro b1 a1 wx1 H1
  refine plain (y_assign rfl rfl) rfl rfl rfl H1 ?_
  clear H1; intro a2 H2
  refine fin ?_
  refine then_n ?_
  refine wp_seq ?_
  refine reg ?_
  refine plain (y_loadAB rfl z_agg50 z_size50 rfl (by repeat (first | exact Mh | apply Mt)) (q_ld_c8b32b32_0_72 (by first | assumption | exact Seal.tag_len _ _ _) (by first | assumption | exact Seal.tag_len _ _ _)) (q_len_c8b32b32 (by first | assumption | exact Seal.tag_len _ _ _) (by first | assumption | exact Seal.tag_len _ _ _))) rfl rfl rfl H2 ?_
  clear H2; intro a3 H3
  refine st_callg rfl z_call77 rfl rfl rfl rfl H3 (rtbody t wf _) ?_
  clear H3; intro a4 wx4 H4
  refine plain (y_move rfl rfl) rfl rfl rfl H4 ?_
  clear H4; intro a5 H5
  refine plain (y_extract rfl rfl rfl) rfl rfl rfl H5 ?_
  clear H5; intro a6 H6
  refine plain (y_extract rfl rfl rfl) rfl rfl rfl H6 ?_
  clear H6; intro a7 H7
  refine plain (y_assign rfl rfl) rfl rfl rfl H7 ?_
  clear H7; intro a8 H8
  refine plain (y_assign rfl rfl) rfl rfl rfl H8 ?_
  clear H8; intro a9 H9
  refine fin ?_
  refine then_n ?_
  refine wp_seq ?_
  refine wp_seq ?_
  refine reg ?_
  refine plain (y_move rfl rfl) rfl rfl rfl H9 ?_
  clear H9; intro a10 H10
  refine plain (y_neq rfl rfl rfl) rfl rfl rfl H10 ?_
  clear H10; intro a11 H11
  refine fin ?_
  refine then_n ?_
  refine cnd H11 rfl (fun hc12 => ?_) (fun hc12 => ?_) -- cond 1
  · skip
    try simp only [decide_eq_true_eq, decide_eq_false_iff_not, Bool.not_eq_true', Bool.not_eq_false', Bool.and_eq_true, Bool.not_eq_true, Bool.not_eq_false] at hc12
    have hc1 : Txs.check t ≠ 0 := by rw [← hbe]; exact hc12
    refine wp_seq ?_
    refine reg ?_
    refine plain (y_move rfl rfl) rfl rfl rfl H11 ?_
    clear H11; intro a13 H13
    refine plain (y_assign rfl rfl) rfl rfl rfl H13 ?_
    clear H13; intro a14 H14
    refine fin ?_
    refine then_n ?_
    refine wp_ret ?_
    refine then_r ?_
    -- return 1
    refine ret1 rfl H14 rfl ?_
    first | (have hz := Lane.chk_tx (l := ⟨len, L⟩) (now := now) hc1; exact ⟨_, [], rfl, ⟨by rw [hz, hbe], rfl⟩, H14.sep.sub (List.nil_sublist _)⟩) | (have hz := Lane.chk_lane (l := ⟨len, L⟩) (now := now) hc2 hl1; exact ⟨_, [], rfl, ⟨by rw [hz], rfl⟩, H14.sep.sub (List.nil_sublist _)⟩) | (have hz := Lane.chk_round (l := ⟨len, L⟩) (now := now) hc2 hl2 hr1; exact ⟨_, [], rfl, ⟨by rw [hz], rfl⟩, H14.sep.sub (List.nil_sublist _)⟩) | (have hz := Lane.chk_none (l := ⟨len, L⟩) (now := now) hc2 hl2 hr2 (show (Lane.whoOf L t.round).2 = false by rw [ha1.1]); exact ⟨_, [], rfl, ⟨by rw [hz], rfl⟩, H14.sep.sub (List.nil_sublist _)⟩) | (have hz := Lane.chk_tag hg (now := now) hc2 hl2 hr2 (show (Lane.whoOf L t.round).2 = true by rw [hwo.1]) (show _ by (rw [hwo.1, Txs.seal_is (show Txs.within (L.getD i Lane.Held.zero).who 63 by have := Lane.good_who hg t.round; rw [hwo.1] at this; exact this)]; exact ht1)); exact ⟨_, [], rfl, ⟨by rw [hz], rfl⟩, H14.sep.sub (List.nil_sublist _)⟩) | (have hz := Lane.chk_turn hg (now := now) hc2 hl2 hr2 (show (Lane.whoOf L t.round).2 = true by rw [hwo.1]) (show _ by (rw [hwo.1, Txs.seal_is (show Txs.within (L.getD i Lane.Held.zero).who 63 by have := Lane.good_who hg t.round; rw [hwo.1] at this; exact this)]; exact Decidable.not_not.1 ht2)) (by rw [hwo.2]; exact hu1); exact ⟨_, [], rfl, ⟨by rw [hz], rfl⟩, H14.sep.sub (List.nil_sublist _)⟩) | (have hz := Lane.chk_ok hg (now := now) hc2 hl2 hr2 (show (Lane.whoOf L t.round).2 = true by rw [hwo.1]) (show _ by (rw [hwo.1, Txs.seal_is (show Txs.within (L.getD i Lane.Held.zero).who 63 by have := Lane.good_who hg t.round; rw [hwo.1] at this; exact this)]; exact Decidable.not_not.1 ht2)) (by rw [hwo.2]; exact hu2); exact ⟨_, [], rfl, ⟨by rw [hz], rfl⟩, H14.sep.sub (List.nil_sublist _)⟩)
  · skip
    try simp only [decide_eq_true_eq, decide_eq_false_iff_not, Bool.not_eq_true', Bool.not_eq_false', Bool.and_eq_true, Bool.not_eq_true, Bool.not_eq_false] at hc12
    have hc2 : ¬ Txs.check t ≠ 0 := by rw [← hbe]; exact hc12
    refine wp_skip ?_
    refine then_n ?_
    refine wp_seq ?_
    refine wp_seq ?_
    refine reg ?_
    refine plain (y_fieldB rfl z_field50_5 rfl (by first | (simp only [Nat.zero_add, Nat.add_zero, Nat.reduceAdd]; rfl) | rfl)) rfl rfl rfl H11 ?_
    clear H11; intro a15 H15
    refine plain (y_loadB rfl z_agg4 rfl (by repeat (first | exact Mh | apply Mt)) q_ix_c8b32b32_5) rfl rfl rfl H15 ?_
    clear H15; intro a16 H16
    refine plain ((by first | exact y_not_d rfl rfl | exact y_not rfl rfl)) rfl rfl rfl H16 ?_
    clear H16; intro a17 H17
    refine fin ?_
    refine then_n ?_
    refine cnd H17 rfl (fun hc18 => ?_) (fun hc18 => ?_) -- cond 2
    · skip
      try simp only [decide_eq_true_eq, decide_eq_false_iff_not, Bool.not_eq_true', Bool.not_eq_false', Bool.and_eq_true, Bool.not_eq_true, Bool.not_eq_false] at hc18
      have hl1 : t.lane = false := by simpa using hc18
      refine wp_seq ?_
      refine reg ?_
      refine plain (y_assign rfl rfl) rfl rfl rfl H17 ?_
      clear H17; intro a19 H19
      refine fin ?_
      refine then_n ?_
      refine wp_ret ?_
      refine then_r ?_
      -- return 2
      refine ret1 rfl H19 rfl ?_
      first | (have hz := Lane.chk_tx (l := ⟨len, L⟩) (now := now) hc1; exact ⟨_, [], rfl, ⟨by rw [hz, hbe], rfl⟩, H19.sep.sub (List.nil_sublist _)⟩) | (have hz := Lane.chk_lane (l := ⟨len, L⟩) (now := now) hc2 hl1; exact ⟨_, [], rfl, ⟨by rw [hz], rfl⟩, H19.sep.sub (List.nil_sublist _)⟩) | (have hz := Lane.chk_round (l := ⟨len, L⟩) (now := now) hc2 hl2 hr1; exact ⟨_, [], rfl, ⟨by rw [hz], rfl⟩, H19.sep.sub (List.nil_sublist _)⟩) | (have hz := Lane.chk_none (l := ⟨len, L⟩) (now := now) hc2 hl2 hr2 (show (Lane.whoOf L t.round).2 = false by rw [ha1.1]); exact ⟨_, [], rfl, ⟨by rw [hz], rfl⟩, H19.sep.sub (List.nil_sublist _)⟩) | (have hz := Lane.chk_tag hg (now := now) hc2 hl2 hr2 (show (Lane.whoOf L t.round).2 = true by rw [hwo.1]) (show _ by (rw [hwo.1, Txs.seal_is (show Txs.within (L.getD i Lane.Held.zero).who 63 by have := Lane.good_who hg t.round; rw [hwo.1] at this; exact this)]; exact ht1)); exact ⟨_, [], rfl, ⟨by rw [hz], rfl⟩, H19.sep.sub (List.nil_sublist _)⟩) | (have hz := Lane.chk_turn hg (now := now) hc2 hl2 hr2 (show (Lane.whoOf L t.round).2 = true by rw [hwo.1]) (show _ by (rw [hwo.1, Txs.seal_is (show Txs.within (L.getD i Lane.Held.zero).who 63 by have := Lane.good_who hg t.round; rw [hwo.1] at this; exact this)]; exact Decidable.not_not.1 ht2)) (by rw [hwo.2]; exact hu1); exact ⟨_, [], rfl, ⟨by rw [hz], rfl⟩, H19.sep.sub (List.nil_sublist _)⟩) | (have hz := Lane.chk_ok hg (now := now) hc2 hl2 hr2 (show (Lane.whoOf L t.round).2 = true by rw [hwo.1]) (show _ by (rw [hwo.1, Txs.seal_is (show Txs.within (L.getD i Lane.Held.zero).who 63 by have := Lane.good_who hg t.round; rw [hwo.1] at this; exact this)]; exact Decidable.not_not.1 ht2)) (by rw [hwo.2]; exact hu2); exact ⟨_, [], rfl, ⟨by rw [hz], rfl⟩, H19.sep.sub (List.nil_sublist _)⟩)
    · skip
      try simp only [decide_eq_true_eq, decide_eq_false_iff_not, Bool.not_eq_true', Bool.not_eq_false', Bool.and_eq_true, Bool.not_eq_true, Bool.not_eq_false] at hc18
      have hl2 : t.lane = true := by simpa using hc18
      refine wp_skip ?_
      refine then_n ?_
      refine wp_seq ?_
      refine wp_seq ?_
      refine qreg (by kernel_rfl) (by kernel_rfl) H17 ?_
      have F20 := H17.fr
      clear H17
      refine qplain (y_fieldB rfl z_field50_6 rfl (by first | (simp only [Nat.zero_add, Nat.add_zero, Nat.reduceAdd]; rfl) | rfl)) rfl rfl rfl F20 ?_
      clear F20; intro a21 H21
      refine qplain (y_loadB rfl z_agg3 rfl (by repeat (first | exact Mh | apply Mt)) q_ix_c8b32b32_6) rfl rfl rfl H21 ?_
      clear H21; intro a22 H22
      refine qplain (y_move rfl rfl) rfl rfl rfl H22 ?_
      clear H22; intro a23 H23
      refine qplain (y_move rfl rfl) rfl rfl rfl H23 ?_
      clear H23; intro a24 H24
      refine qcallg rfl z_call22 rfl rfl rfl rfl H24 (fun w hs => (xround len now hg.len.1 hnow x (.slice A L.length cc) (hs.keep hx))) ?_
      clear H24; intro a25 H25
      refine qplain (y_neq rfl rfl rfl) rfl rfl rfl H25 ?_
      clear H25; intro a26 H26
      refine qfin H26 ?_
      clear H26; intro wx27 H27
      refine then_n ?_
      refine cnd H27 rfl (fun hc28 => ?_) (fun hc28 => ?_) -- cond 3
      · skip
        try simp only [decide_eq_true_eq, decide_eq_false_iff_not, Bool.not_eq_true', Bool.not_eq_false', Bool.and_eq_true, Bool.not_eq_true, Bool.not_eq_false] at hc28
        have hr1 := hc28
        refine wp_seq ?_
        refine reg ?_
        refine plain (y_assign rfl rfl) rfl rfl rfl H27 ?_
        clear H27; intro a29 H29
        refine fin ?_
        refine then_n ?_
        refine wp_ret ?_
        refine then_r ?_
        -- return 3
        refine ret1 rfl H29 rfl ?_
        first | (have hz := Lane.chk_tx (l := ⟨len, L⟩) (now := now) hc1; exact ⟨_, [], rfl, ⟨by rw [hz, hbe], rfl⟩, H29.sep.sub (List.nil_sublist _)⟩) | (have hz := Lane.chk_lane (l := ⟨len, L⟩) (now := now) hc2 hl1; exact ⟨_, [], rfl, ⟨by rw [hz], rfl⟩, H29.sep.sub (List.nil_sublist _)⟩) | (have hz := Lane.chk_round (l := ⟨len, L⟩) (now := now) hc2 hl2 hr1; exact ⟨_, [], rfl, ⟨by rw [hz], rfl⟩, H29.sep.sub (List.nil_sublist _)⟩) | (have hz := Lane.chk_none (l := ⟨len, L⟩) (now := now) hc2 hl2 hr2 (show (Lane.whoOf L t.round).2 = false by rw [ha1.1]); exact ⟨_, [], rfl, ⟨by rw [hz], rfl⟩, H29.sep.sub (List.nil_sublist _)⟩) | (have hz := Lane.chk_tag hg (now := now) hc2 hl2 hr2 (show (Lane.whoOf L t.round).2 = true by rw [hwo.1]) (show _ by (rw [hwo.1, Txs.seal_is (show Txs.within (L.getD i Lane.Held.zero).who 63 by have := Lane.good_who hg t.round; rw [hwo.1] at this; exact this)]; exact ht1)); exact ⟨_, [], rfl, ⟨by rw [hz], rfl⟩, H29.sep.sub (List.nil_sublist _)⟩) | (have hz := Lane.chk_turn hg (now := now) hc2 hl2 hr2 (show (Lane.whoOf L t.round).2 = true by rw [hwo.1]) (show _ by (rw [hwo.1, Txs.seal_is (show Txs.within (L.getD i Lane.Held.zero).who 63 by have := Lane.good_who hg t.round; rw [hwo.1] at this; exact this)]; exact Decidable.not_not.1 ht2)) (by rw [hwo.2]; exact hu1); exact ⟨_, [], rfl, ⟨by rw [hz], rfl⟩, H29.sep.sub (List.nil_sublist _)⟩) | (have hz := Lane.chk_ok hg (now := now) hc2 hl2 hr2 (show (Lane.whoOf L t.round).2 = true by rw [hwo.1]) (show _ by (rw [hwo.1, Txs.seal_is (show Txs.within (L.getD i Lane.Held.zero).who 63 by have := Lane.good_who hg t.round; rw [hwo.1] at this; exact this)]; exact Decidable.not_not.1 ht2)) (by rw [hwo.2]; exact hu2); exact ⟨_, [], rfl, ⟨by rw [hz], rfl⟩, H29.sep.sub (List.nil_sublist _)⟩)
      · skip
        try simp only [decide_eq_true_eq, decide_eq_false_iff_not, Bool.not_eq_true', Bool.not_eq_false', Bool.and_eq_true, Bool.not_eq_true, Bool.not_eq_false] at hc28
        have hr2 := hc28
        refine wp_skip ?_
        refine then_n ?_
        refine wp_seq ?_
        refine reg ?_
        refine plain (y_move rfl rfl) rfl rfl rfl H27 ?_
        clear H27; intro a30 H30
        refine plain (y_fieldB rfl z_field50_6 rfl (by first | (simp only [Nat.zero_add, Nat.add_zero, Nat.reduceAdd]; rfl) | rfl)) rfl rfl rfl H30 ?_
        clear H30; intro a31 H31
        refine plain (y_loadB rfl z_agg3 rfl (by repeat (first | exact Mh | apply Mt)) q_ix_c8b32b32_6) rfl rfl rfl H31 ?_
        clear H31; intro a32 H32
        refine st_callg rfl z_call24 rfl rfl rfl rfl H32 (xat len L t.round x (.slice A L.length cc) hl (H32.sep.keep hx) (H32.sep.keep hr)) ?_
        clear H32; intro a33 wx33 H33
        refine plain (y_assign rfl rfl) rfl rfl rfl H33 ?_
        clear H33; intro a34 H34
        refine fin ?_
        refine then_n ?_
        refine wp_seq ?_
        refine wp_seq ?_
        refine reg ?_
        refine plain (y_move rfl rfl) rfl rfl rfl H34 ?_
        clear H34; intro a35 H35
        refine plain (y_lss rfl rfl rfl) rfl rfl rfl H35 ?_
        clear H35; intro a36 H36
        refine fin ?_
        refine then_n ?_
        refine cnd H36 rfl (fun hc37 => ?_) (fun hc37 => ?_) -- cond 4
        · skip
          try simp only [decide_eq_true_eq, decide_eq_false_iff_not, Bool.not_eq_true', Bool.not_eq_false', Bool.and_eq_true, Bool.not_eq_true, Bool.not_eq_false] at hc37
          have ha1 := Lane.who_at hc37
          refine wp_seq ?_
          refine reg ?_
          refine plain (y_assign rfl rfl) rfl rfl rfl H36 ?_
          clear H36; intro a38 H38
          refine fin ?_
          refine then_n ?_
          refine wp_ret ?_
          refine then_r ?_
          -- return 4
          refine ret1 rfl H38 rfl ?_
          first | (have hz := Lane.chk_tx (l := ⟨len, L⟩) (now := now) hc1; exact ⟨_, [], rfl, ⟨by rw [hz, hbe], rfl⟩, H38.sep.sub (List.nil_sublist _)⟩) | (have hz := Lane.chk_lane (l := ⟨len, L⟩) (now := now) hc2 hl1; exact ⟨_, [], rfl, ⟨by rw [hz], rfl⟩, H38.sep.sub (List.nil_sublist _)⟩) | (have hz := Lane.chk_round (l := ⟨len, L⟩) (now := now) hc2 hl2 hr1; exact ⟨_, [], rfl, ⟨by rw [hz], rfl⟩, H38.sep.sub (List.nil_sublist _)⟩) | (have hz := Lane.chk_none (l := ⟨len, L⟩) (now := now) hc2 hl2 hr2 (show (Lane.whoOf L t.round).2 = false by rw [ha1.1]); exact ⟨_, [], rfl, ⟨by rw [hz], rfl⟩, H38.sep.sub (List.nil_sublist _)⟩) | (have hz := Lane.chk_tag hg (now := now) hc2 hl2 hr2 (show (Lane.whoOf L t.round).2 = true by rw [hwo.1]) (show _ by (rw [hwo.1, Txs.seal_is (show Txs.within (L.getD i Lane.Held.zero).who 63 by have := Lane.good_who hg t.round; rw [hwo.1] at this; exact this)]; exact ht1)); exact ⟨_, [], rfl, ⟨by rw [hz], rfl⟩, H38.sep.sub (List.nil_sublist _)⟩) | (have hz := Lane.chk_turn hg (now := now) hc2 hl2 hr2 (show (Lane.whoOf L t.round).2 = true by rw [hwo.1]) (show _ by (rw [hwo.1, Txs.seal_is (show Txs.within (L.getD i Lane.Held.zero).who 63 by have := Lane.good_who hg t.round; rw [hwo.1] at this; exact this)]; exact Decidable.not_not.1 ht2)) (by rw [hwo.2]; exact hu1); exact ⟨_, [], rfl, ⟨by rw [hz], rfl⟩, H38.sep.sub (List.nil_sublist _)⟩) | (have hz := Lane.chk_ok hg (now := now) hc2 hl2 hr2 (show (Lane.whoOf L t.round).2 = true by rw [hwo.1]) (show _ by (rw [hwo.1, Txs.seal_is (show Txs.within (L.getD i Lane.Held.zero).who 63 by have := Lane.good_who hg t.round; rw [hwo.1] at this; exact this)]; exact Decidable.not_not.1 ht2)) (by rw [hwo.2]; exact hu2); exact ⟨_, [], rfl, ⟨by rw [hz], rfl⟩, H38.sep.sub (List.nil_sublist _)⟩)
        · skip
          try simp only [decide_eq_true_eq, decide_eq_false_iff_not, Bool.not_eq_true', Bool.not_eq_false', Bool.and_eq_true, Bool.not_eq_true, Bool.not_eq_false] at hc37
          obtain ⟨i, hi, hai, hpl, hlk⟩ := Lane.at_look hc37
          have hwo := Lane.at_who hlk
          rw [hai] at H36
          refine wp_skip ?_
          refine then_n ?_
          refine wp_seq ?_
          refine reg ?_
          refine plain (y_move rfl rfl) rfl rfl rfl H36 ?_
          clear H36; intro a39 H39
          refine plain (y_nilCheck rfl rfl) rfl rfl rfl H39 ?_
          clear H39; intro a40 H40
          refine plain (y_fieldB rfl z_field60_1 rfl (by first | (simp only [Nat.zero_add, Nat.add_zero, Nat.reduceAdd]; rfl) | rfl)) rfl rfl rfl H40 ?_
          clear H40; intro a41 H41
          refine plain (y_loadO rfl z_agg58 rfl (blk_cell hx (by rfl)) (by simp)) rfl rfl rfl H41 ?_
          clear H41; intro a42 H42
          refine plain (y_move rfl rfl) rfl rfl rfl H42 ?_
          clear H42; intro a43 H43
          refine plain (y_ixR rfl Tryd.underlying58 z_size57 rfl rfl (by omega) (by omega) (rd_old hR (by simp)) (by rw [Lane.hc_len]; omega)) rfl rfl rfl H43 ?_
          clear H43; intro a44 H44
          refine plain (y_fieldS rfl z_field57_1 rfl (rd_old hR (by simp)) (by rw [Lane.hc_len]; omega)) rfl rfl rfl H44 ?_
          clear H44; intro a45 H45
          refine plain (y_loadR rfl z_agg3 rfl (rd_old hR (by simp)) (by simp only [hai, Int.toNat_natCast, Nat.zero_add, Nat.add_zero]; exact (show _ = some (i64 (L.getD i Lane.Held.zero).who) from Lane.hc_at (c := 1) hi (by omega)))) rfl rfl rfl H45 ?_
          clear H45; intro a46 H46
          refine plain (y_move rfl rfl) rfl rfl rfl H46 ?_
          clear H46; intro a47 H47
          refine st_callg rfl z_call76 rfl rfl rfl rfl H47 (rtag (L.getD i Lane.Held.zero).who 2 (by have := Lane.who64 hg t.round; rw [hwo.1] at this; exact this) (by decide) (Txs.body t).1 (by omega) _) ?_
          clear H47; intro a48 wx48 H48
          refine plain (y_move rfl rfl) rfl rfl rfl H48 ?_
          clear H48; intro a49 H49
          refine plain (y_extract rfl rfl rfl) rfl rfl rfl H49 ?_
          clear H49; intro a50 H50
          refine plain (y_extract rfl rfl rfl) rfl rfl rfl H50 ?_
          clear H50; intro a51 H51
          refine st_alloc rfl z_zeroN28 rfl rfl rfl H51 ?_
          clear H51; intro b52 a52 wx52 H52
          refine st_storeN rfl z_size28 rfl rfl (agg_cells _) (by repeat (first | exact Uh | apply Ut)) q_one_b32 (q_len_b32 (by first | assumption | exact Seal.tag_len _ _ _)) (q_len_b32 (by first | assumption | exact Seal.tag_len _ _ _)) (q_spl_b32_0_b32 (by first | assumption | exact Seal.tag_len _ _ _) (by first | assumption | exact Seal.tag_len _ _ _)) (by decide) rfl rfl H52 ?_
          clear H52; intro wx53 H53
          refine plain (y_assign rfl rfl) rfl rfl rfl H53 ?_
          clear H53; intro a54 H54
          refine fin ?_
          refine then_n ?_
          refine wp_seq ?_
          refine wp_seq ?_
          refine reg ?_
          refine plain (y_loadAB rfl z_agg28 z_size28 rfl (by repeat (first | exact Mh | apply Mt)) (q_ld_b32_0_32 (by first | assumption | exact Seal.tag_len _ _ _)) (q_len_b32 (by first | assumption | exact Seal.tag_len _ _ _))) rfl rfl rfl H54 ?_
          clear H54; intro a55 H55
          refine plain (y_fieldB rfl z_field50_8 rfl (by first | (simp only [Nat.zero_add, Nat.add_zero, Nat.reduceAdd]; rfl) | rfl)) rfl rfl rfl H55 ?_
          clear H55; intro a56 H56
          refine plain (y_loadAB rfl z_agg28 z_size28 rfl (by repeat (first | exact Mh | apply Mt)) (q_ld_c8b32b32_8_32 (by first | assumption | exact Seal.tag_len _ _ _)) (q_len_b32 (by first | assumption | exact Seal.tag_len _ _ _))) rfl rfl rfl H56 ?_
          clear H56; intro a57 H57
          refine plain (y_hneq rfl Tryd.eqGuardType28 Tryd.underlying28 Tryd.underlying5 z_size5 rfl rfl (by first | assumption | exact Seal.tag_len _ _ _) (by first | assumption | exact Seal.tag_len _ _ _)) rfl rfl rfl H57 ?_
          clear H57; intro a58 H58
          refine fin ?_
          refine then_n ?_
          refine cnd H58 rfl (fun hc59 => ?_) (fun hc59 => ?_) -- cond 5
          · skip
            try simp only [decide_eq_true_eq, decide_eq_false_iff_not, Bool.not_eq_true', Bool.not_eq_false', Bool.and_eq_true, Bool.not_eq_true, Bool.not_eq_false] at hc59
            have ht1 := hc59
            refine wp_seq ?_
            refine reg ?_
            refine plain (y_assign rfl rfl) rfl rfl rfl H58 ?_
            clear H58; intro a60 H60
            refine fin ?_
            refine then_n ?_
            refine wp_ret ?_
            refine then_r ?_
            -- return 5
            refine ret1 rfl H60 rfl ?_
            first | (have hz := Lane.chk_tx (l := ⟨len, L⟩) (now := now) hc1; exact ⟨_, [], rfl, ⟨by rw [hz, hbe], rfl⟩, H60.sep.sub (List.nil_sublist _)⟩) | (have hz := Lane.chk_lane (l := ⟨len, L⟩) (now := now) hc2 hl1; exact ⟨_, [], rfl, ⟨by rw [hz], rfl⟩, H60.sep.sub (List.nil_sublist _)⟩) | (have hz := Lane.chk_round (l := ⟨len, L⟩) (now := now) hc2 hl2 hr1; exact ⟨_, [], rfl, ⟨by rw [hz], rfl⟩, H60.sep.sub (List.nil_sublist _)⟩) | (have hz := Lane.chk_none (l := ⟨len, L⟩) (now := now) hc2 hl2 hr2 (show (Lane.whoOf L t.round).2 = false by rw [ha1.1]); exact ⟨_, [], rfl, ⟨by rw [hz], rfl⟩, H60.sep.sub (List.nil_sublist _)⟩) | (have hz := Lane.chk_tag hg (now := now) hc2 hl2 hr2 (show (Lane.whoOf L t.round).2 = true by rw [hwo.1]) (show _ by (rw [hwo.1, Txs.seal_is (show Txs.within (L.getD i Lane.Held.zero).who 63 by have := Lane.good_who hg t.round; rw [hwo.1] at this; exact this)]; exact ht1)); exact ⟨_, [], rfl, ⟨by rw [hz], rfl⟩, H60.sep.sub (List.nil_sublist _)⟩) | (have hz := Lane.chk_turn hg (now := now) hc2 hl2 hr2 (show (Lane.whoOf L t.round).2 = true by rw [hwo.1]) (show _ by (rw [hwo.1, Txs.seal_is (show Txs.within (L.getD i Lane.Held.zero).who 63 by have := Lane.good_who hg t.round; rw [hwo.1] at this; exact this)]; exact Decidable.not_not.1 ht2)) (by rw [hwo.2]; exact hu1); exact ⟨_, [], rfl, ⟨by rw [hz], rfl⟩, H60.sep.sub (List.nil_sublist _)⟩) | (have hz := Lane.chk_ok hg (now := now) hc2 hl2 hr2 (show (Lane.whoOf L t.round).2 = true by rw [hwo.1]) (show _ by (rw [hwo.1, Txs.seal_is (show Txs.within (L.getD i Lane.Held.zero).who 63 by have := Lane.good_who hg t.round; rw [hwo.1] at this; exact this)]; exact Decidable.not_not.1 ht2)) (by rw [hwo.2]; exact hu2); exact ⟨_, [], rfl, ⟨by rw [hz], rfl⟩, H60.sep.sub (List.nil_sublist _)⟩)
          · skip
            try simp only [decide_eq_true_eq, decide_eq_false_iff_not, Bool.not_eq_true', Bool.not_eq_false', Bool.and_eq_true, Bool.not_eq_true, Bool.not_eq_false] at hc59
            have ht2 := hc59
            refine wp_skip ?_
            refine then_n ?_
            refine wp_seq ?_
            refine wp_seq ?_
            refine qreg (by kernel_rfl) (by kernel_rfl) H58 ?_
            have F61 := H58.fr
            clear H58
            refine qplain (y_fieldB rfl z_field50_7 rfl (by first | (simp only [Nat.zero_add, Nat.add_zero, Nat.reduceAdd]; rfl) | rfl)) rfl rfl rfl F61 ?_
            clear F61; intro a62 H62
            refine qplain (y_loadB rfl z_agg3 rfl (by repeat (first | exact Mh | apply Mt)) q_ix_c8b32b32_7) rfl rfl rfl H62 ?_
            clear H62; intro a63 H63
            refine qplain (y_move rfl rfl) rfl rfl rfl H63 ?_
            clear H63; intro a64 H64
            refine qplain (y_nilCheck rfl rfl) rfl rfl rfl H64 ?_
            clear H64; intro a65 H65
            refine qplain (y_fieldB rfl z_field60_1 rfl (by first | (simp only [Nat.zero_add, Nat.add_zero, Nat.reduceAdd]; rfl) | rfl)) rfl rfl rfl H65 ?_
            clear H65; intro a66 H66
            refine qplain (y_loadO rfl z_agg58 rfl (blk_cell hx (by rfl)) (by simp)) rfl rfl rfl H66 ?_
            clear H66; intro a67 H67
            refine qplain (y_move rfl rfl) rfl rfl rfl H67 ?_
            clear H67; intro a68 H68
            refine qplain (y_ixR rfl Tryd.underlying58 z_size57 rfl rfl (by omega) (by omega) (rd_old hR (by simp)) (by rw [Lane.hc_len]; omega)) rfl rfl rfl H68 ?_
            clear H68; intro a69 H69
            refine qplain (y_fieldS rfl z_field57_2 rfl (rd_old hR (by simp)) (by rw [Lane.hc_len]; omega)) rfl rfl rfl H69 ?_
            clear H69; intro a70 H70
            refine qplain (y_loadR rfl z_agg3 rfl (rd_old hR (by simp)) (by simp only [hai, Int.toNat_natCast, Nat.zero_add, Nat.add_zero]; exact (show _ = some (i64 (L.getD i Lane.Held.zero).turn) from Lane.hc_at (c := 2) hi (by omega)))) rfl rfl rfl H70 ?_
            clear H70; intro a71 H71
            refine qplain (y_neq rfl rfl rfl) rfl rfl rfl H71 ?_
            clear H71; intro a72 H72
            refine qfin H72 ?_
            clear H72; intro wx73 H73
            refine then_n ?_
            refine cnd H73 rfl (fun hc74 => ?_) (fun hc74 => ?_) -- cond 6
            · skip
              try simp only [decide_eq_true_eq, decide_eq_false_iff_not, Bool.not_eq_true', Bool.not_eq_false', Bool.and_eq_true, Bool.not_eq_true, Bool.not_eq_false] at hc74
              have hu1 := hc74
              refine wp_seq ?_
              refine reg ?_
              refine plain (y_assign rfl rfl) rfl rfl rfl H73 ?_
              clear H73; intro a75 H75
              refine fin ?_
              refine then_n ?_
              refine wp_ret ?_
              refine then_r ?_
              -- return 6
              refine ret1 rfl H75 rfl ?_
              first | (have hz := Lane.chk_tx (l := ⟨len, L⟩) (now := now) hc1; exact ⟨_, [], rfl, ⟨by rw [hz, hbe], rfl⟩, H75.sep.sub (List.nil_sublist _)⟩) | (have hz := Lane.chk_lane (l := ⟨len, L⟩) (now := now) hc2 hl1; exact ⟨_, [], rfl, ⟨by rw [hz], rfl⟩, H75.sep.sub (List.nil_sublist _)⟩) | (have hz := Lane.chk_round (l := ⟨len, L⟩) (now := now) hc2 hl2 hr1; exact ⟨_, [], rfl, ⟨by rw [hz], rfl⟩, H75.sep.sub (List.nil_sublist _)⟩) | (have hz := Lane.chk_none (l := ⟨len, L⟩) (now := now) hc2 hl2 hr2 (show (Lane.whoOf L t.round).2 = false by rw [ha1.1]); exact ⟨_, [], rfl, ⟨by rw [hz], rfl⟩, H75.sep.sub (List.nil_sublist _)⟩) | (have hz := Lane.chk_tag hg (now := now) hc2 hl2 hr2 (show (Lane.whoOf L t.round).2 = true by rw [hwo.1]) (show _ by (rw [hwo.1, Txs.seal_is (show Txs.within (L.getD i Lane.Held.zero).who 63 by have := Lane.good_who hg t.round; rw [hwo.1] at this; exact this)]; exact ht1)); exact ⟨_, [], rfl, ⟨by rw [hz], rfl⟩, H75.sep.sub (List.nil_sublist _)⟩) | (have hz := Lane.chk_turn hg (now := now) hc2 hl2 hr2 (show (Lane.whoOf L t.round).2 = true by rw [hwo.1]) (show _ by (rw [hwo.1, Txs.seal_is (show Txs.within (L.getD i Lane.Held.zero).who 63 by have := Lane.good_who hg t.round; rw [hwo.1] at this; exact this)]; exact Decidable.not_not.1 ht2)) (by rw [hwo.2]; exact hu1); exact ⟨_, [], rfl, ⟨by rw [hz], rfl⟩, H75.sep.sub (List.nil_sublist _)⟩) | (have hz := Lane.chk_ok hg (now := now) hc2 hl2 hr2 (show (Lane.whoOf L t.round).2 = true by rw [hwo.1]) (show _ by (rw [hwo.1, Txs.seal_is (show Txs.within (L.getD i Lane.Held.zero).who 63 by have := Lane.good_who hg t.round; rw [hwo.1] at this; exact this)]; exact Decidable.not_not.1 ht2)) (by rw [hwo.2]; exact hu2); exact ⟨_, [], rfl, ⟨by rw [hz], rfl⟩, H75.sep.sub (List.nil_sublist _)⟩)
            · skip
              try simp only [decide_eq_true_eq, decide_eq_false_iff_not, Bool.not_eq_true', Bool.not_eq_false', Bool.and_eq_true, Bool.not_eq_true, Bool.not_eq_false] at hc74
              have hu2 := hc74
              refine wp_skip ?_
              refine then_n ?_
              refine wp_seq ?_
              refine reg ?_
              refine plain (y_assign rfl rfl) rfl rfl rfl H73 ?_
              clear H73; intro a76 H76
              refine fin ?_
              refine then_n ?_
              refine wp_ret ?_
              -- return 7
              refine ret1 rfl H76 rfl ?_
              first | (have hz := Lane.chk_tx (l := ⟨len, L⟩) (now := now) hc1; exact ⟨_, [], rfl, ⟨by rw [hz, hbe], rfl⟩, H76.sep.sub (List.nil_sublist _)⟩) | (have hz := Lane.chk_lane (l := ⟨len, L⟩) (now := now) hc2 hl1; exact ⟨_, [], rfl, ⟨by rw [hz], rfl⟩, H76.sep.sub (List.nil_sublist _)⟩) | (have hz := Lane.chk_round (l := ⟨len, L⟩) (now := now) hc2 hl2 hr1; exact ⟨_, [], rfl, ⟨by rw [hz], rfl⟩, H76.sep.sub (List.nil_sublist _)⟩) | (have hz := Lane.chk_none (l := ⟨len, L⟩) (now := now) hc2 hl2 hr2 (show (Lane.whoOf L t.round).2 = false by rw [ha1.1]); exact ⟨_, [], rfl, ⟨by rw [hz], rfl⟩, H76.sep.sub (List.nil_sublist _)⟩) | (have hz := Lane.chk_tag hg (now := now) hc2 hl2 hr2 (show (Lane.whoOf L t.round).2 = true by rw [hwo.1]) (show _ by (rw [hwo.1, Txs.seal_is (show Txs.within (L.getD i Lane.Held.zero).who 63 by have := Lane.good_who hg t.round; rw [hwo.1] at this; exact this)]; exact ht1)); exact ⟨_, [], rfl, ⟨by rw [hz], rfl⟩, H76.sep.sub (List.nil_sublist _)⟩) | (have hz := Lane.chk_turn hg (now := now) hc2 hl2 hr2 (show (Lane.whoOf L t.round).2 = true by rw [hwo.1]) (show _ by (rw [hwo.1, Txs.seal_is (show Txs.within (L.getD i Lane.Held.zero).who 63 by have := Lane.good_who hg t.round; rw [hwo.1] at this; exact this)]; exact Decidable.not_not.1 ht2)) (by rw [hwo.2]; exact hu1); exact ⟨_, [], rfl, ⟨by rw [hz], rfl⟩, H76.sep.sub (List.nil_sublist _)⟩) | (have hz := Lane.chk_ok hg (now := now) hc2 hl2 hr2 (show (Lane.whoOf L t.round).2 = true by rw [hwo.1]) (show _ by (rw [hwo.1, Txs.seal_is (show Txs.within (L.getD i Lane.Held.zero).who 63 by have := Lane.good_who hg t.round; rw [hwo.1] at this; exact this)]; exact Decidable.not_not.1 ht2)) (by rw [hwo.2]; exact hu2); exact ⟨_, [], rfl, ⟨by rw [hz], rfl⟩, H76.sep.sub (List.nil_sublist _)⟩)
set_option maxRecDepth 100000 in
set_option maxHeartbeats 4000000 in
theorem xtake (len : Int) (L : List Lane.Held) (hl : L.length ≤ 1000000) (hg : Lane.Good ⟨len, L⟩) (t : Txs.Tx) (wf : Txs.Tx.Wf t) (now : Int) (hnow : Note.I64 now) (x : Nat) (v : Value) {w : World} (hs : Sep (fps [It.row 57 3 v L.length (Lane.hc L), It.blk x 60 [i64 len, v]]) w w [It.row 57 3 v L.length (Lane.hc L), It.blk x 60 [i64 len, v]]) : Calls Tryd.prog 56 #[.pointer (some ⟨x, 0, none⟩), .agg (Txs.Tx.cells t).toArray, .int .i64 now] w (Post (fps [It.row 57 3 v L.length (Lane.hc L), It.blk x 60 [i64 len, v]]) w fun u l' => u = .int .i64 (Lane.take ⟨len, L⟩ t now).2 ∧ ∃ v', l' = [It.row 57 3 v' (Lane.take ⟨len, L⟩ t now).1.L.length (Lane.hc (Lane.take ⟨len, L⟩ t now).1.L), It.blk x 60 [i64 len, v']]) := by
  have whd := wf.hand
  have wtg := wf.tag
  obtain ⟨A, cc, rfl, hRx, hmx⟩ := row_shape (v := v) hs (by repeat (first | exact Mh | apply Mt))
  have lz32 : (List.replicate 32 (0 : UInt8)).length = 32 := List.length_replicate
  have lz0 := wf.hand
  have lz1 := wf.tag
  refine enterL (args := [.pointer (some ⟨x, 0, none⟩), .agg (Txs.Tx.cells t).toArray, .int .i64 now]) Tryd.func56 rfl rfl (l := [It.row 57 3 (.slice A L.length cc) L.length (Lane.hc L), It.blk x 60 [i64 len, (.slice A L.length cc)]]) hs ?_
  intro a0 H0
  refine wp_seq ?_
  refine reg ?_
  refine st_box rfl rfl (agg_cells _) rfl rfl rfl H0 ?_
  clear H0; intro b1 a1 wx1 H1
  refine plain (y_assign rfl rfl) rfl rfl rfl H1 ?_
  clear H1; intro a2 H2
  refine fin ?_
  refine then_n ?_
  refine wp_seq ?_
  refine reg ?_
  refine plain (y_move rfl rfl) rfl rfl rfl H2 ?_
  clear H2; intro a3 H3
  refine plain (y_loadAB rfl z_agg50 z_size50 rfl (by repeat (first | exact Mh | apply Mt)) (q_ld_c8b32b32_0_72 (by assumption) (by assumption)) (q_len_c8b32b32 (by assumption) (by assumption))) rfl rfl rfl H3 ?_
  clear H3; intro a4 H4
  refine plain (y_move rfl rfl) rfl rfl rfl H4 ?_
  clear H4; intro a5 H5
  refine st_callg rfl z_call55 rfl rfl rfl rfl H5 (xcheck len L hl hg t wf now hnow x (.slice A L.length cc) (H5.sep.all _ (by repeat (first | exact Mh | apply Mt))) (H5.sep.all _ (by repeat (first | exact Mh | apply Mt)))) ?_
  clear H5; intro a6 wx6 H6
  refine plain (y_assign rfl rfl) rfl rfl rfl H6 ?_
  clear H6; intro a7 H7
  refine fin ?_
  refine then_n ?_
  refine wp_seq ?_
  refine wp_seq ?_
  refine reg ?_
  refine plain (y_move rfl rfl) rfl rfl rfl H7 ?_
  clear H7; intro a8 H8
  refine plain (y_eql rfl rfl rfl) rfl rfl rfl H8 ?_
  clear H8; intro a9 H9
  refine fin ?_
  refine then_n ?_
  refine cnd H9 rfl (fun hc10 => ?_) (fun hc10 => ?_) -- cond 1
  · skip
    try simp only [decide_eq_true_eq, decide_eq_false_iff_not, Bool.not_eq_true', Bool.not_eq_false', Bool.and_eq_true, Bool.not_eq_true, Bool.not_eq_false] at hc10
    have hCK0 := congrArg (Value.int .i64) hc10
    obtain ⟨y, hy, hyt, hyb, hyx⟩ := Lane.take_is (l := ⟨len, L⟩) hc10
    obtain ⟨i, hi, hai, hpl, hlk⟩ := Lane.at_look (L := L) (r := t.round) (fun hz => by rw [Lane.at_none hz] at hy; cases hy)
    obtain rfl : L.getD i Lane.Held.zero = y := Option.some.inj (hlk.symm.trans hy)
    refine wp_seq ?_
    refine reg ?_
    refine plain (y_move rfl rfl) rfl rfl rfl H9 ?_
    clear H9; intro a11 H11
    refine plain (y_fieldB rfl z_field50_6 rfl (by first | (simp only [Nat.zero_add, Nat.add_zero, Nat.reduceAdd]; rfl) | rfl)) rfl rfl rfl H11 ?_
    clear H11; intro a12 H12
    refine plain (y_loadB rfl z_agg3 rfl (by repeat (first | exact Mh | apply Mt)) q_ix_c8b32b32_6) rfl rfl rfl H12 ?_
    clear H12; intro a13 H13
    refine st_callg rfl z_call24 rfl rfl rfl rfl H13 (xat len L t.round x (.slice A L.length cc) hl (H13.sep.all _ (by repeat (first | exact Mh | apply Mt))) (H13.sep.all _ (by repeat (first | exact Mh | apply Mt)))) ?_
    clear H13; intro a14 wx14 H14
    refine plain (y_assign rfl rfl) rfl rfl rfl H14 ?_
    clear H14; intro a15 H15
    refine fin ?_
    refine then_n ?_
    rw [hai] at H15
    refine hreg [It.blk b1 50 (Txs.Tx.cells t), It.blk x 60 [i64 len, (.slice A L.length cc)]] (fun _ h => (h.sub (by first | exact S0 | exact S1 | repeat (first | exact S1 | exact S0 | apply S2 | apply S3)))) (by kernel_rfl) H15 ?_
    clear H15; intro wx16 H16
    refine htake 0 rfl (by kernel_rfl) (y_move rfl rfl) rfl rfl rfl (fun _ h => (h.sub (by first | exact S0 | exact S1 | repeat (first | exact S1 | exact S0 | apply S2 | apply S3)))) H16 ?_
    clear H16; intro a17 H17
    refine htake 1 rfl (by kernel_rfl) (y_nilCheck rfl rfl) rfl rfl rfl (fun _ h => (h.sub (by first | exact S0 | exact S1 | repeat (first | exact S1 | exact S0 | apply S2 | apply S3)))) H17 ?_
    clear H17; intro a18 H18
    refine htake 2 rfl (by kernel_rfl) (y_fieldB rfl z_field60_1 rfl (by first | (simp only [Nat.zero_add, Nat.add_zero, Nat.reduceAdd]; rfl) | rfl)) rfl rfl rfl (fun _ h => (h.sub (by first | exact S0 | exact S1 | repeat (first | exact S1 | exact S0 | apply S2 | apply S3)))) H18 ?_
    clear H18; intro a19 H19
    refine htake 3 rfl (by kernel_rfl) (y_loadB rfl z_agg58 rfl (by repeat (first | exact Mh | apply Mt)) q_ix_c2_1) rfl rfl rfl (fun _ h => (h.sub (by first | exact S0 | exact S1 | repeat (first | exact S1 | exact S0 | apply S2 | apply S3)))) H19 ?_
    clear H19; intro a20 H20
    refine htake 4 rfl (by kernel_rfl) (y_move rfl rfl) rfl rfl rfl (fun _ h => (h.sub (by first | exact S0 | exact S1 | repeat (first | exact S1 | exact S0 | apply S2 | apply S3)))) H20 ?_
    clear H20; intro a21 H21
    refine htake 5 rfl (by kernel_rfl) (y_fieldB rfl z_field50_6 rfl (by first | (simp only [Nat.zero_add, Nat.add_zero, Nat.reduceAdd]; rfl) | rfl)) rfl rfl rfl (fun _ h => (h.sub (by first | exact S0 | exact S1 | repeat (first | exact S1 | exact S0 | apply S2 | apply S3)))) H21 ?_
    clear H21; intro a22 H22
    refine htake 6 rfl (by kernel_rfl) (y_loadB rfl z_agg3 rfl (by repeat (first | exact Mh | apply Mt)) q_ix_c8b32b32_6) rfl rfl rfl (fun _ h => (h.sub (by first | exact S0 | exact S1 | repeat (first | exact S1 | exact S0 | apply S2 | apply S3)))) H22 ?_
    clear H22; intro a23 H23
    refine htake 7 rfl (by kernel_rfl) (y_move rfl rfl) rfl rfl rfl (fun _ h => (h.sub (by first | exact S0 | exact S1 | repeat (first | exact S1 | exact S0 | apply S2 | apply S3)))) H23 ?_
    clear H23; intro a24 H24
    refine htake 8 rfl (by kernel_rfl) (y_nilCheck rfl rfl) rfl rfl rfl (fun _ h => (h.sub (by first | exact S0 | exact S1 | repeat (first | exact S1 | exact S0 | apply S2 | apply S3)))) H24 ?_
    clear H24; intro a25 H25
    refine htake 9 rfl (by kernel_rfl) (y_fieldB rfl z_field60_1 rfl (by first | (simp only [Nat.zero_add, Nat.add_zero, Nat.reduceAdd]; rfl) | rfl)) rfl rfl rfl (fun _ h => (h.sub (by first | exact S0 | exact S1 | repeat (first | exact S1 | exact S0 | apply S2 | apply S3)))) H25 ?_
    clear H25; intro a26 H26
    refine htake 10 rfl (by kernel_rfl) (y_loadB rfl z_agg58 rfl (by repeat (first | exact Mh | apply Mt)) q_ix_c2_1) rfl rfl rfl (fun _ h => (h.sub (by first | exact S0 | exact S1 | repeat (first | exact S1 | exact S0 | apply S2 | apply S3)))) H26 ?_
    clear H26; intro a27 H27
    refine htake 11 rfl (by kernel_rfl) (y_move rfl rfl) rfl rfl rfl (fun _ h => (h.sub (by first | exact S0 | exact S1 | repeat (first | exact S1 | exact S0 | apply S2 | apply S3)))) H27 ?_
    clear H27; intro a28 H28
    refine htake 15 rfl (by kernel_rfl) (y_move rfl rfl) rfl rfl rfl (fun _ h => (h.sub (by first | exact S0 | exact S1 | repeat (first | exact S1 | exact S0 | apply S2 | apply S3)))) H28 ?_
    clear H28; intro a29 H29
    refine htake 16 rfl (by kernel_rfl) (y_nilCheck rfl rfl) rfl rfl rfl (fun _ h => (h.sub (by first | exact S0 | exact S1 | repeat (first | exact S1 | exact S0 | apply S2 | apply S3)))) H29 ?_
    clear H29; intro a30 H30
    refine htake 17 rfl (by kernel_rfl) (y_fieldB rfl z_field60_1 rfl (by first | (simp only [Nat.zero_add, Nat.add_zero, Nat.reduceAdd]; rfl) | rfl)) rfl rfl rfl (fun _ h => (h.sub (by first | exact S0 | exact S1 | repeat (first | exact S1 | exact S0 | apply S2 | apply S3)))) H30 ?_
    clear H30; intro a31 H31
    refine htake 18 rfl (by kernel_rfl) (y_loadB rfl z_agg58 rfl (by repeat (first | exact Mh | apply Mt)) q_ix_c2_1) rfl rfl rfl (fun _ h => (h.sub (by first | exact S0 | exact S1 | repeat (first | exact S1 | exact S0 | apply S2 | apply S3)))) H31 ?_
    clear H31; intro a32 H32
    refine htake 19 rfl (by kernel_rfl) (y_move rfl rfl) rfl rfl rfl (fun _ h => (h.sub (by first | exact S0 | exact S1 | repeat (first | exact S1 | exact S0 | apply S2 | apply S3)))) H32 ?_
    clear H32; intro a33 H33
    refine hgo2 12 20 rfl rfl (by kernel_rfl) ?_ ?_
    · skip
      refine plain (y_ixR rfl Tryd.underlying58 z_size57 rfl rfl (by omega) (by omega) (rd_row (by repeat (first | exact Mh | apply Mt))) (by rw [Lane.hc_len]; omega)) rfl rfl rfl H33 ?_
      clear H33; intro a34 H34
      refine hfin (H34.sep.sub (by first | exact S0 | exact S1 | repeat (first | exact S1 | exact S0 | apply S2 | apply S3))) ?_
      refine hgo2 13 20 rfl rfl (by kernel_rfl) ?_ ?_
      · skip
        refine plain (y_fieldS rfl z_field57_1 rfl (rd_row (by repeat (first | exact Mh | apply Mt))) (by rw [Lane.hc_len]; omega)) rfl rfl rfl H34 ?_
        clear H34; intro a35 H35
        refine hfin (H35.sep.sub (by first | exact S0 | exact S1 | repeat (first | exact S1 | exact S0 | apply S2 | apply S3))) ?_
        refine hgo2 14 20 rfl rfl (by kernel_rfl) ?_ ?_
        · skip
          refine plain (y_loadR rfl z_agg3 rfl (rd_row (by repeat (first | exact Mh | apply Mt))) (by simp only [hai, Int.toNat_natCast, Nat.zero_add, Nat.add_zero]; exact (show _ = some (i64 (L.getD i Lane.Held.zero).who) from Lane.hc_at (c := 1) hi (by omega)))) rfl rfl rfl H35 ?_
          clear H35; intro a36 H36
          refine hfin (H36.sep.sub (by first | exact S0 | exact S1 | repeat (first | exact S1 | exact S0 | apply S2 | apply S3))) ?_
          refine hgo 20 rfl (by kernel_rfl) ?_
          refine plain (y_ixR rfl Tryd.underlying58 z_size57 rfl rfl (by omega) (by omega) (rd_row (by repeat (first | exact Mh | apply Mt))) (by rw [Lane.hc_len]; omega)) rfl rfl rfl H36 ?_
          clear H36; intro a37 H37
          refine hfin (H37.sep.sub (by first | exact S0 | exact S1 | repeat (first | exact S1 | exact S0 | apply S2 | apply S3))) ?_
          refine hgo 21 rfl (by kernel_rfl) ?_
          refine plain (y_fieldS rfl z_field57_2 rfl (rd_row (by repeat (first | exact Mh | apply Mt))) (by rw [Lane.hc_len]; omega)) rfl rfl rfl H37 ?_
          clear H37; intro a38 H38
          refine hfin (H38.sep.sub (by first | exact S0 | exact S1 | repeat (first | exact S1 | exact S0 | apply S2 | apply S3))) ?_
          refine hgo 22 rfl (by kernel_rfl) ?_
          refine plain (y_loadR rfl z_agg3 rfl (rd_row (by repeat (first | exact Mh | apply Mt))) (by simp only [hai, Int.toNat_natCast, Nat.zero_add, Nat.add_zero]; exact (show _ = some (i64 (L.getD i Lane.Held.zero).turn) from Lane.hc_at (c := 2) hi (by omega)))) rfl rfl rfl H38 ?_
          clear H38; intro a39 H39
          refine hfin (H39.sep.sub (by first | exact S0 | exact S1 | repeat (first | exact S1 | exact S0 | apply S2 | apply S3))) ?_
          refine htake 23 rfl (by kernel_rfl) (y_add rfl rfl rfl (by first | exact w64 (by omega) (by omega) | rfl)) rfl rfl rfl (fun _ h => (h.sub (by first | exact S0 | exact S1 | repeat (first | exact S1 | exact S0 | apply S2 | apply S3)))) H39 ?_
          clear H39; intro a40 H40
          refine htake 24 rfl (by kernel_rfl) (y_build rfl z_zeroN57 z_places57 rfl (lay_1 (off := 0) (n := 3) rfl q_len_c3 (by decide) q_spl_c3_0_c1 (lay_1 (off := 1) (n := 3) rfl q_len_c3 (by decide) q_spl_c3_1_c1 (lay_1 (off := 2) (n := 3) rfl q_len_c3 (by decide) q_spl_c3_2_c1 lay_n (by rfl)) (by rfl)) (by rfl))) rfl rfl rfl (fun _ h => (h.sub (by first | exact S0 | exact S1 | repeat (first | exact S1 | exact S0 | apply S2 | apply S3)))) H40 ?_
          clear H40; intro a41 H41
          refine hgo 25 rfl (by kernel_rfl) ?_
          refine plain (y_ixR rfl Tryd.underlying58 z_size57 rfl rfl (by omega) (by omega) (rd_row (by repeat (first | exact Mh | apply Mt))) (by rw [Lane.hc_len]; omega)) rfl rfl rfl H41 ?_
          clear H41; intro a42 H42
          refine hfin (H42.sep.sub (by first | exact S0 | exact S1 | repeat (first | exact S1 | exact S0 | apply S2 | apply S3))) ?_
          refine hgo 26 rfl (by kernel_rfl) ?_
          refine st_storeRow rfl z_size57 rfl rfl (agg_cells _) (by simp [i64, Value.oneCell']) rfl (by decide) (by repeat (first | exact Uh | apply Ut)) (by rw [Lane.hc_len]; omega) rfl rfl H42 ?_
          clear H42; intro wx43 H43
          refine hfin (H43.sep.sub (by first | exact S0 | exact S1 | repeat (first | exact S1 | exact S0 | apply S2 | apply S3))) ?_
          refine hdone (by kernel_rfl) ?_
          refine then_n ?_
          refine wp_seq ?_
          refine reg ?_
          refine plain (y_move rfl rfl) rfl rfl rfl H43 ?_
          clear H43; intro a44 H44
          refine plain (y_assign rfl rfl) rfl rfl rfl H44 ?_
          clear H44; intro a45 H45
          refine fin ?_
          refine then_n ?_
          refine wp_ret ?_
          -- return 1
          refine ret1 rfl H45 rfl ?_
          first | (rw [hyx]; refine ⟨_, _, rfl, ⟨hCK0, (.slice A L.length cc), ?_⟩, H45.sep.sub (List.Sublist.cons _ (List.Sublist.refl _))⟩; dsimp only; rw [Lane.put_at hpl, Lane.hc_set _ _ _ hi, List.length_set]; rfl) | (rw [Lane.take_no hno]; exact ⟨_, _, rfl, ⟨rfl, _, rfl⟩, H45.sep.sub (List.Sublist.cons _ (List.Sublist.refl _))⟩)
        · skip
          refine plain (y_ixR rfl Tryd.underlying58 z_size57 rfl rfl (by omega) (by omega) (rd_row (by repeat (first | exact Mh | apply Mt))) (by rw [Lane.hc_len]; omega)) rfl rfl rfl H35 ?_
          clear H35; intro a46 H46
          refine hfin (H46.sep.sub (by first | exact S0 | exact S1 | repeat (first | exact S1 | exact S0 | apply S2 | apply S3))) ?_
          refine hgo2 14 21 rfl rfl (by kernel_rfl) ?_ ?_
          · skip
            refine plain (y_loadR rfl z_agg3 rfl (rd_row (by repeat (first | exact Mh | apply Mt))) (by simp only [hai, Int.toNat_natCast, Nat.zero_add, Nat.add_zero]; exact (show _ = some (i64 (L.getD i Lane.Held.zero).who) from Lane.hc_at (c := 1) hi (by omega)))) rfl rfl rfl H46 ?_
            clear H46; intro a47 H47
            refine hfin (H47.sep.sub (by first | exact S0 | exact S1 | repeat (first | exact S1 | exact S0 | apply S2 | apply S3))) ?_
            refine hgo 21 rfl (by kernel_rfl) ?_
            refine plain (y_fieldS rfl z_field57_2 rfl (rd_row (by repeat (first | exact Mh | apply Mt))) (by rw [Lane.hc_len]; omega)) rfl rfl rfl H47 ?_
            clear H47; intro a48 H48
            refine hfin (H48.sep.sub (by first | exact S0 | exact S1 | repeat (first | exact S1 | exact S0 | apply S2 | apply S3))) ?_
            refine hgo 22 rfl (by kernel_rfl) ?_
            refine plain (y_loadR rfl z_agg3 rfl (rd_row (by repeat (first | exact Mh | apply Mt))) (by simp only [hai, Int.toNat_natCast, Nat.zero_add, Nat.add_zero]; exact (show _ = some (i64 (L.getD i Lane.Held.zero).turn) from Lane.hc_at (c := 2) hi (by omega)))) rfl rfl rfl H48 ?_
            clear H48; intro a49 H49
            refine hfin (H49.sep.sub (by first | exact S0 | exact S1 | repeat (first | exact S1 | exact S0 | apply S2 | apply S3))) ?_
            refine htake 23 rfl (by kernel_rfl) (y_add rfl rfl rfl (by first | exact w64 (by omega) (by omega) | rfl)) rfl rfl rfl (fun _ h => (h.sub (by first | exact S0 | exact S1 | repeat (first | exact S1 | exact S0 | apply S2 | apply S3)))) H49 ?_
            clear H49; intro a50 H50
            refine htake 24 rfl (by kernel_rfl) (y_build rfl z_zeroN57 z_places57 rfl (lay_1 (off := 0) (n := 3) rfl q_len_c3 (by decide) q_spl_c3_0_c1 (lay_1 (off := 1) (n := 3) rfl q_len_c3 (by decide) q_spl_c3_1_c1 (lay_1 (off := 2) (n := 3) rfl q_len_c3 (by decide) q_spl_c3_2_c1 lay_n (by rfl)) (by rfl)) (by rfl))) rfl rfl rfl (fun _ h => (h.sub (by first | exact S0 | exact S1 | repeat (first | exact S1 | exact S0 | apply S2 | apply S3)))) H50 ?_
            clear H50; intro a51 H51
            refine hgo 25 rfl (by kernel_rfl) ?_
            refine plain (y_ixR rfl Tryd.underlying58 z_size57 rfl rfl (by omega) (by omega) (rd_row (by repeat (first | exact Mh | apply Mt))) (by rw [Lane.hc_len]; omega)) rfl rfl rfl H51 ?_
            clear H51; intro a52 H52
            refine hfin (H52.sep.sub (by first | exact S0 | exact S1 | repeat (first | exact S1 | exact S0 | apply S2 | apply S3))) ?_
            refine hgo 26 rfl (by kernel_rfl) ?_
            refine st_storeRow rfl z_size57 rfl rfl (agg_cells _) (by simp [i64, Value.oneCell']) rfl (by decide) (by repeat (first | exact Uh | apply Ut)) (by rw [Lane.hc_len]; omega) rfl rfl H52 ?_
            clear H52; intro wx53 H53
            refine hfin (H53.sep.sub (by first | exact S0 | exact S1 | repeat (first | exact S1 | exact S0 | apply S2 | apply S3))) ?_
            refine hdone (by kernel_rfl) ?_
            refine then_n ?_
            refine wp_seq ?_
            refine reg ?_
            refine plain (y_move rfl rfl) rfl rfl rfl H53 ?_
            clear H53; intro a54 H54
            refine plain (y_assign rfl rfl) rfl rfl rfl H54 ?_
            clear H54; intro a55 H55
            refine fin ?_
            refine then_n ?_
            refine wp_ret ?_
            -- return 2
            refine ret1 rfl H55 rfl ?_
            first | (rw [hyx]; refine ⟨_, _, rfl, ⟨hCK0, (.slice A L.length cc), ?_⟩, H55.sep.sub (List.Sublist.cons _ (List.Sublist.refl _))⟩; dsimp only; rw [Lane.put_at hpl, Lane.hc_set _ _ _ hi, List.length_set]; rfl) | (rw [Lane.take_no hno]; exact ⟨_, _, rfl, ⟨rfl, _, rfl⟩, H55.sep.sub (List.Sublist.cons _ (List.Sublist.refl _))⟩)
          · skip
            refine plain (y_fieldS rfl z_field57_2 rfl (rd_row (by repeat (first | exact Mh | apply Mt))) (by rw [Lane.hc_len]; omega)) rfl rfl rfl H46 ?_
            clear H46; intro a56 H56
            refine hfin (H56.sep.sub (by first | exact S0 | exact S1 | repeat (first | exact S1 | exact S0 | apply S2 | apply S3))) ?_
            refine hgo2 14 22 rfl rfl (by kernel_rfl) ?_ ?_
            · skip
              refine plain (y_loadR rfl z_agg3 rfl (rd_row (by repeat (first | exact Mh | apply Mt))) (by simp only [hai, Int.toNat_natCast, Nat.zero_add, Nat.add_zero]; exact (show _ = some (i64 (L.getD i Lane.Held.zero).who) from Lane.hc_at (c := 1) hi (by omega)))) rfl rfl rfl H56 ?_
              clear H56; intro a57 H57
              refine hfin (H57.sep.sub (by first | exact S0 | exact S1 | repeat (first | exact S1 | exact S0 | apply S2 | apply S3))) ?_
              refine hgo 22 rfl (by kernel_rfl) ?_
              refine plain (y_loadR rfl z_agg3 rfl (rd_row (by repeat (first | exact Mh | apply Mt))) (by simp only [hai, Int.toNat_natCast, Nat.zero_add, Nat.add_zero]; exact (show _ = some (i64 (L.getD i Lane.Held.zero).turn) from Lane.hc_at (c := 2) hi (by omega)))) rfl rfl rfl H57 ?_
              clear H57; intro a58 H58
              refine hfin (H58.sep.sub (by first | exact S0 | exact S1 | repeat (first | exact S1 | exact S0 | apply S2 | apply S3))) ?_
              refine htake 23 rfl (by kernel_rfl) (y_add rfl rfl rfl (by first | exact w64 (by omega) (by omega) | rfl)) rfl rfl rfl (fun _ h => (h.sub (by first | exact S0 | exact S1 | repeat (first | exact S1 | exact S0 | apply S2 | apply S3)))) H58 ?_
              clear H58; intro a59 H59
              refine htake 24 rfl (by kernel_rfl) (y_build rfl z_zeroN57 z_places57 rfl (lay_1 (off := 0) (n := 3) rfl q_len_c3 (by decide) q_spl_c3_0_c1 (lay_1 (off := 1) (n := 3) rfl q_len_c3 (by decide) q_spl_c3_1_c1 (lay_1 (off := 2) (n := 3) rfl q_len_c3 (by decide) q_spl_c3_2_c1 lay_n (by rfl)) (by rfl)) (by rfl))) rfl rfl rfl (fun _ h => (h.sub (by first | exact S0 | exact S1 | repeat (first | exact S1 | exact S0 | apply S2 | apply S3)))) H59 ?_
              clear H59; intro a60 H60
              refine hgo 25 rfl (by kernel_rfl) ?_
              refine plain (y_ixR rfl Tryd.underlying58 z_size57 rfl rfl (by omega) (by omega) (rd_row (by repeat (first | exact Mh | apply Mt))) (by rw [Lane.hc_len]; omega)) rfl rfl rfl H60 ?_
              clear H60; intro a61 H61
              refine hfin (H61.sep.sub (by first | exact S0 | exact S1 | repeat (first | exact S1 | exact S0 | apply S2 | apply S3))) ?_
              refine hgo 26 rfl (by kernel_rfl) ?_
              refine st_storeRow rfl z_size57 rfl rfl (agg_cells _) (by simp [i64, Value.oneCell']) rfl (by decide) (by repeat (first | exact Uh | apply Ut)) (by rw [Lane.hc_len]; omega) rfl rfl H61 ?_
              clear H61; intro wx62 H62
              refine hfin (H62.sep.sub (by first | exact S0 | exact S1 | repeat (first | exact S1 | exact S0 | apply S2 | apply S3))) ?_
              refine hdone (by kernel_rfl) ?_
              refine then_n ?_
              refine wp_seq ?_
              refine reg ?_
              refine plain (y_move rfl rfl) rfl rfl rfl H62 ?_
              clear H62; intro a63 H63
              refine plain (y_assign rfl rfl) rfl rfl rfl H63 ?_
              clear H63; intro a64 H64
              refine fin ?_
              refine then_n ?_
              refine wp_ret ?_
              -- return 3
              refine ret1 rfl H64 rfl ?_
              first | (rw [hyx]; refine ⟨_, _, rfl, ⟨hCK0, (.slice A L.length cc), ?_⟩, H64.sep.sub (List.Sublist.cons _ (List.Sublist.refl _))⟩; dsimp only; rw [Lane.put_at hpl, Lane.hc_set _ _ _ hi, List.length_set]; rfl) | (rw [Lane.take_no hno]; exact ⟨_, _, rfl, ⟨rfl, _, rfl⟩, H64.sep.sub (List.Sublist.cons _ (List.Sublist.refl _))⟩)
            · skip
              refine plain (y_loadR rfl z_agg3 rfl (rd_row (by repeat (first | exact Mh | apply Mt))) (by simp only [hai, Int.toNat_natCast, Nat.zero_add, Nat.add_zero]; exact (show _ = some (i64 (L.getD i Lane.Held.zero).turn) from Lane.hc_at (c := 2) hi (by omega)))) rfl rfl rfl H56 ?_
              clear H56; intro a65 H65
              refine hfin (H65.sep.sub (by first | exact S0 | exact S1 | repeat (first | exact S1 | exact S0 | apply S2 | apply S3))) ?_
              refine htake 23 rfl (by kernel_rfl) (y_add rfl rfl rfl (by first | exact w64 (by omega) (by omega) | rfl)) rfl rfl rfl (fun _ h => (h.sub (by first | exact S0 | exact S1 | repeat (first | exact S1 | exact S0 | apply S2 | apply S3)))) H65 ?_
              clear H65; intro a66 H66
              refine hgo 14 rfl (by kernel_rfl) ?_
              refine plain (y_loadR rfl z_agg3 rfl (rd_row (by repeat (first | exact Mh | apply Mt))) (by simp only [hai, Int.toNat_natCast, Nat.zero_add, Nat.add_zero]; exact (show _ = some (i64 (L.getD i Lane.Held.zero).who) from Lane.hc_at (c := 1) hi (by omega)))) rfl rfl rfl H66 ?_
              clear H66; intro a67 H67
              refine hfin (H67.sep.sub (by first | exact S0 | exact S1 | repeat (first | exact S1 | exact S0 | apply S2 | apply S3))) ?_
              refine htake 24 rfl (by kernel_rfl) (y_build rfl z_zeroN57 z_places57 rfl (lay_1 (off := 0) (n := 3) rfl q_len_c3 (by decide) q_spl_c3_0_c1 (lay_1 (off := 1) (n := 3) rfl q_len_c3 (by decide) q_spl_c3_1_c1 (lay_1 (off := 2) (n := 3) rfl q_len_c3 (by decide) q_spl_c3_2_c1 lay_n (by rfl)) (by rfl)) (by rfl))) rfl rfl rfl (fun _ h => (h.sub (by first | exact S0 | exact S1 | repeat (first | exact S1 | exact S0 | apply S2 | apply S3)))) H67 ?_
              clear H67; intro a68 H68
              refine hgo 25 rfl (by kernel_rfl) ?_
              refine plain (y_ixR rfl Tryd.underlying58 z_size57 rfl rfl (by omega) (by omega) (rd_row (by repeat (first | exact Mh | apply Mt))) (by rw [Lane.hc_len]; omega)) rfl rfl rfl H68 ?_
              clear H68; intro a69 H69
              refine hfin (H69.sep.sub (by first | exact S0 | exact S1 | repeat (first | exact S1 | exact S0 | apply S2 | apply S3))) ?_
              refine hgo 26 rfl (by kernel_rfl) ?_
              refine st_storeRow rfl z_size57 rfl rfl (agg_cells _) (by simp [i64, Value.oneCell']) rfl (by decide) (by repeat (first | exact Uh | apply Ut)) (by rw [Lane.hc_len]; omega) rfl rfl H69 ?_
              clear H69; intro wx70 H70
              refine hfin (H70.sep.sub (by first | exact S0 | exact S1 | repeat (first | exact S1 | exact S0 | apply S2 | apply S3))) ?_
              refine hdone (by kernel_rfl) ?_
              refine then_n ?_
              refine wp_seq ?_
              refine reg ?_
              refine plain (y_move rfl rfl) rfl rfl rfl H70 ?_
              clear H70; intro a71 H71
              refine plain (y_assign rfl rfl) rfl rfl rfl H71 ?_
              clear H71; intro a72 H72
              refine fin ?_
              refine then_n ?_
              refine wp_ret ?_
              -- return 4
              refine ret1 rfl H72 rfl ?_
              first | (rw [hyx]; refine ⟨_, _, rfl, ⟨hCK0, (.slice A L.length cc), ?_⟩, H72.sep.sub (List.Sublist.cons _ (List.Sublist.refl _))⟩; dsimp only; rw [Lane.put_at hpl, Lane.hc_set _ _ _ hi, List.length_set]; rfl) | (rw [Lane.take_no hno]; exact ⟨_, _, rfl, ⟨rfl, _, rfl⟩, H72.sep.sub (List.Sublist.cons _ (List.Sublist.refl _))⟩)
      · skip
        refine plain (y_ixR rfl Tryd.underlying58 z_size57 rfl rfl (by omega) (by omega) (rd_row (by repeat (first | exact Mh | apply Mt))) (by rw [Lane.hc_len]; omega)) rfl rfl rfl H34 ?_
        clear H34; intro a73 H73
        refine hfin (H73.sep.sub (by first | exact S0 | exact S1 | repeat (first | exact S1 | exact S0 | apply S2 | apply S3))) ?_
        refine hgo2 13 21 rfl rfl (by kernel_rfl) ?_ ?_
        · skip
          refine plain (y_fieldS rfl z_field57_1 rfl (rd_row (by repeat (first | exact Mh | apply Mt))) (by rw [Lane.hc_len]; omega)) rfl rfl rfl H73 ?_
          clear H73; intro a74 H74
          refine hfin (H74.sep.sub (by first | exact S0 | exact S1 | repeat (first | exact S1 | exact S0 | apply S2 | apply S3))) ?_
          refine hgo2 14 21 rfl rfl (by kernel_rfl) ?_ ?_
          · skip
            refine plain (y_loadR rfl z_agg3 rfl (rd_row (by repeat (first | exact Mh | apply Mt))) (by simp only [hai, Int.toNat_natCast, Nat.zero_add, Nat.add_zero]; exact (show _ = some (i64 (L.getD i Lane.Held.zero).who) from Lane.hc_at (c := 1) hi (by omega)))) rfl rfl rfl H74 ?_
            clear H74; intro a75 H75
            refine hfin (H75.sep.sub (by first | exact S0 | exact S1 | repeat (first | exact S1 | exact S0 | apply S2 | apply S3))) ?_
            refine hgo 21 rfl (by kernel_rfl) ?_
            refine plain (y_fieldS rfl z_field57_2 rfl (rd_row (by repeat (first | exact Mh | apply Mt))) (by rw [Lane.hc_len]; omega)) rfl rfl rfl H75 ?_
            clear H75; intro a76 H76
            refine hfin (H76.sep.sub (by first | exact S0 | exact S1 | repeat (first | exact S1 | exact S0 | apply S2 | apply S3))) ?_
            refine hgo 22 rfl (by kernel_rfl) ?_
            refine plain (y_loadR rfl z_agg3 rfl (rd_row (by repeat (first | exact Mh | apply Mt))) (by simp only [hai, Int.toNat_natCast, Nat.zero_add, Nat.add_zero]; exact (show _ = some (i64 (L.getD i Lane.Held.zero).turn) from Lane.hc_at (c := 2) hi (by omega)))) rfl rfl rfl H76 ?_
            clear H76; intro a77 H77
            refine hfin (H77.sep.sub (by first | exact S0 | exact S1 | repeat (first | exact S1 | exact S0 | apply S2 | apply S3))) ?_
            refine htake 23 rfl (by kernel_rfl) (y_add rfl rfl rfl (by first | exact w64 (by omega) (by omega) | rfl)) rfl rfl rfl (fun _ h => (h.sub (by first | exact S0 | exact S1 | repeat (first | exact S1 | exact S0 | apply S2 | apply S3)))) H77 ?_
            clear H77; intro a78 H78
            refine htake 24 rfl (by kernel_rfl) (y_build rfl z_zeroN57 z_places57 rfl (lay_1 (off := 0) (n := 3) rfl q_len_c3 (by decide) q_spl_c3_0_c1 (lay_1 (off := 1) (n := 3) rfl q_len_c3 (by decide) q_spl_c3_1_c1 (lay_1 (off := 2) (n := 3) rfl q_len_c3 (by decide) q_spl_c3_2_c1 lay_n (by rfl)) (by rfl)) (by rfl))) rfl rfl rfl (fun _ h => (h.sub (by first | exact S0 | exact S1 | repeat (first | exact S1 | exact S0 | apply S2 | apply S3)))) H78 ?_
            clear H78; intro a79 H79
            refine hgo 25 rfl (by kernel_rfl) ?_
            refine plain (y_ixR rfl Tryd.underlying58 z_size57 rfl rfl (by omega) (by omega) (rd_row (by repeat (first | exact Mh | apply Mt))) (by rw [Lane.hc_len]; omega)) rfl rfl rfl H79 ?_
            clear H79; intro a80 H80
            refine hfin (H80.sep.sub (by first | exact S0 | exact S1 | repeat (first | exact S1 | exact S0 | apply S2 | apply S3))) ?_
            refine hgo 26 rfl (by kernel_rfl) ?_
            refine st_storeRow rfl z_size57 rfl rfl (agg_cells _) (by simp [i64, Value.oneCell']) rfl (by decide) (by repeat (first | exact Uh | apply Ut)) (by rw [Lane.hc_len]; omega) rfl rfl H80 ?_
            clear H80; intro wx81 H81
            refine hfin (H81.sep.sub (by first | exact S0 | exact S1 | repeat (first | exact S1 | exact S0 | apply S2 | apply S3))) ?_
            refine hdone (by kernel_rfl) ?_
            refine then_n ?_
            refine wp_seq ?_
            refine reg ?_
            refine plain (y_move rfl rfl) rfl rfl rfl H81 ?_
            clear H81; intro a82 H82
            refine plain (y_assign rfl rfl) rfl rfl rfl H82 ?_
            clear H82; intro a83 H83
            refine fin ?_
            refine then_n ?_
            refine wp_ret ?_
            -- return 5
            refine ret1 rfl H83 rfl ?_
            first | (rw [hyx]; refine ⟨_, _, rfl, ⟨hCK0, (.slice A L.length cc), ?_⟩, H83.sep.sub (List.Sublist.cons _ (List.Sublist.refl _))⟩; dsimp only; rw [Lane.put_at hpl, Lane.hc_set _ _ _ hi, List.length_set]; rfl) | (rw [Lane.take_no hno]; exact ⟨_, _, rfl, ⟨rfl, _, rfl⟩, H83.sep.sub (List.Sublist.cons _ (List.Sublist.refl _))⟩)
          · skip
            refine plain (y_fieldS rfl z_field57_2 rfl (rd_row (by repeat (first | exact Mh | apply Mt))) (by rw [Lane.hc_len]; omega)) rfl rfl rfl H74 ?_
            clear H74; intro a84 H84
            refine hfin (H84.sep.sub (by first | exact S0 | exact S1 | repeat (first | exact S1 | exact S0 | apply S2 | apply S3))) ?_
            refine hgo2 14 22 rfl rfl (by kernel_rfl) ?_ ?_
            · skip
              refine plain (y_loadR rfl z_agg3 rfl (rd_row (by repeat (first | exact Mh | apply Mt))) (by simp only [hai, Int.toNat_natCast, Nat.zero_add, Nat.add_zero]; exact (show _ = some (i64 (L.getD i Lane.Held.zero).who) from Lane.hc_at (c := 1) hi (by omega)))) rfl rfl rfl H84 ?_
              clear H84; intro a85 H85
              refine hfin (H85.sep.sub (by first | exact S0 | exact S1 | repeat (first | exact S1 | exact S0 | apply S2 | apply S3))) ?_
              refine hgo 22 rfl (by kernel_rfl) ?_
              refine plain (y_loadR rfl z_agg3 rfl (rd_row (by repeat (first | exact Mh | apply Mt))) (by simp only [hai, Int.toNat_natCast, Nat.zero_add, Nat.add_zero]; exact (show _ = some (i64 (L.getD i Lane.Held.zero).turn) from Lane.hc_at (c := 2) hi (by omega)))) rfl rfl rfl H85 ?_
              clear H85; intro a86 H86
              refine hfin (H86.sep.sub (by first | exact S0 | exact S1 | repeat (first | exact S1 | exact S0 | apply S2 | apply S3))) ?_
              refine htake 23 rfl (by kernel_rfl) (y_add rfl rfl rfl (by first | exact w64 (by omega) (by omega) | rfl)) rfl rfl rfl (fun _ h => (h.sub (by first | exact S0 | exact S1 | repeat (first | exact S1 | exact S0 | apply S2 | apply S3)))) H86 ?_
              clear H86; intro a87 H87
              refine htake 24 rfl (by kernel_rfl) (y_build rfl z_zeroN57 z_places57 rfl (lay_1 (off := 0) (n := 3) rfl q_len_c3 (by decide) q_spl_c3_0_c1 (lay_1 (off := 1) (n := 3) rfl q_len_c3 (by decide) q_spl_c3_1_c1 (lay_1 (off := 2) (n := 3) rfl q_len_c3 (by decide) q_spl_c3_2_c1 lay_n (by rfl)) (by rfl)) (by rfl))) rfl rfl rfl (fun _ h => (h.sub (by first | exact S0 | exact S1 | repeat (first | exact S1 | exact S0 | apply S2 | apply S3)))) H87 ?_
              clear H87; intro a88 H88
              refine hgo 25 rfl (by kernel_rfl) ?_
              refine plain (y_ixR rfl Tryd.underlying58 z_size57 rfl rfl (by omega) (by omega) (rd_row (by repeat (first | exact Mh | apply Mt))) (by rw [Lane.hc_len]; omega)) rfl rfl rfl H88 ?_
              clear H88; intro a89 H89
              refine hfin (H89.sep.sub (by first | exact S0 | exact S1 | repeat (first | exact S1 | exact S0 | apply S2 | apply S3))) ?_
              refine hgo 26 rfl (by kernel_rfl) ?_
              refine st_storeRow rfl z_size57 rfl rfl (agg_cells _) (by simp [i64, Value.oneCell']) rfl (by decide) (by repeat (first | exact Uh | apply Ut)) (by rw [Lane.hc_len]; omega) rfl rfl H89 ?_
              clear H89; intro wx90 H90
              refine hfin (H90.sep.sub (by first | exact S0 | exact S1 | repeat (first | exact S1 | exact S0 | apply S2 | apply S3))) ?_
              refine hdone (by kernel_rfl) ?_
              refine then_n ?_
              refine wp_seq ?_
              refine reg ?_
              refine plain (y_move rfl rfl) rfl rfl rfl H90 ?_
              clear H90; intro a91 H91
              refine plain (y_assign rfl rfl) rfl rfl rfl H91 ?_
              clear H91; intro a92 H92
              refine fin ?_
              refine then_n ?_
              refine wp_ret ?_
              -- return 6
              refine ret1 rfl H92 rfl ?_
              first | (rw [hyx]; refine ⟨_, _, rfl, ⟨hCK0, (.slice A L.length cc), ?_⟩, H92.sep.sub (List.Sublist.cons _ (List.Sublist.refl _))⟩; dsimp only; rw [Lane.put_at hpl, Lane.hc_set _ _ _ hi, List.length_set]; rfl) | (rw [Lane.take_no hno]; exact ⟨_, _, rfl, ⟨rfl, _, rfl⟩, H92.sep.sub (List.Sublist.cons _ (List.Sublist.refl _))⟩)
            · skip
              refine plain (y_loadR rfl z_agg3 rfl (rd_row (by repeat (first | exact Mh | apply Mt))) (by simp only [hai, Int.toNat_natCast, Nat.zero_add, Nat.add_zero]; exact (show _ = some (i64 (L.getD i Lane.Held.zero).turn) from Lane.hc_at (c := 2) hi (by omega)))) rfl rfl rfl H84 ?_
              clear H84; intro a93 H93
              refine hfin (H93.sep.sub (by first | exact S0 | exact S1 | repeat (first | exact S1 | exact S0 | apply S2 | apply S3))) ?_
              refine htake 23 rfl (by kernel_rfl) (y_add rfl rfl rfl (by first | exact w64 (by omega) (by omega) | rfl)) rfl rfl rfl (fun _ h => (h.sub (by first | exact S0 | exact S1 | repeat (first | exact S1 | exact S0 | apply S2 | apply S3)))) H93 ?_
              clear H93; intro a94 H94
              refine hgo 14 rfl (by kernel_rfl) ?_
              refine plain (y_loadR rfl z_agg3 rfl (rd_row (by repeat (first | exact Mh | apply Mt))) (by simp only [hai, Int.toNat_natCast, Nat.zero_add, Nat.add_zero]; exact (show _ = some (i64 (L.getD i Lane.Held.zero).who) from Lane.hc_at (c := 1) hi (by omega)))) rfl rfl rfl H94 ?_
              clear H94; intro a95 H95
              refine hfin (H95.sep.sub (by first | exact S0 | exact S1 | repeat (first | exact S1 | exact S0 | apply S2 | apply S3))) ?_
              refine htake 24 rfl (by kernel_rfl) (y_build rfl z_zeroN57 z_places57 rfl (lay_1 (off := 0) (n := 3) rfl q_len_c3 (by decide) q_spl_c3_0_c1 (lay_1 (off := 1) (n := 3) rfl q_len_c3 (by decide) q_spl_c3_1_c1 (lay_1 (off := 2) (n := 3) rfl q_len_c3 (by decide) q_spl_c3_2_c1 lay_n (by rfl)) (by rfl)) (by rfl))) rfl rfl rfl (fun _ h => (h.sub (by first | exact S0 | exact S1 | repeat (first | exact S1 | exact S0 | apply S2 | apply S3)))) H95 ?_
              clear H95; intro a96 H96
              refine hgo 25 rfl (by kernel_rfl) ?_
              refine plain (y_ixR rfl Tryd.underlying58 z_size57 rfl rfl (by omega) (by omega) (rd_row (by repeat (first | exact Mh | apply Mt))) (by rw [Lane.hc_len]; omega)) rfl rfl rfl H96 ?_
              clear H96; intro a97 H97
              refine hfin (H97.sep.sub (by first | exact S0 | exact S1 | repeat (first | exact S1 | exact S0 | apply S2 | apply S3))) ?_
              refine hgo 26 rfl (by kernel_rfl) ?_
              refine st_storeRow rfl z_size57 rfl rfl (agg_cells _) (by simp [i64, Value.oneCell']) rfl (by decide) (by repeat (first | exact Uh | apply Ut)) (by rw [Lane.hc_len]; omega) rfl rfl H97 ?_
              clear H97; intro wx98 H98
              refine hfin (H98.sep.sub (by first | exact S0 | exact S1 | repeat (first | exact S1 | exact S0 | apply S2 | apply S3))) ?_
              refine hdone (by kernel_rfl) ?_
              refine then_n ?_
              refine wp_seq ?_
              refine reg ?_
              refine plain (y_move rfl rfl) rfl rfl rfl H98 ?_
              clear H98; intro a99 H99
              refine plain (y_assign rfl rfl) rfl rfl rfl H99 ?_
              clear H99; intro a100 H100
              refine fin ?_
              refine then_n ?_
              refine wp_ret ?_
              -- return 7
              refine ret1 rfl H100 rfl ?_
              first | (rw [hyx]; refine ⟨_, _, rfl, ⟨hCK0, (.slice A L.length cc), ?_⟩, H100.sep.sub (List.Sublist.cons _ (List.Sublist.refl _))⟩; dsimp only; rw [Lane.put_at hpl, Lane.hc_set _ _ _ hi, List.length_set]; rfl) | (rw [Lane.take_no hno]; exact ⟨_, _, rfl, ⟨rfl, _, rfl⟩, H100.sep.sub (List.Sublist.cons _ (List.Sublist.refl _))⟩)
        · skip
          refine plain (y_fieldS rfl z_field57_2 rfl (rd_row (by repeat (first | exact Mh | apply Mt))) (by rw [Lane.hc_len]; omega)) rfl rfl rfl H73 ?_
          clear H73; intro a101 H101
          refine hfin (H101.sep.sub (by first | exact S0 | exact S1 | repeat (first | exact S1 | exact S0 | apply S2 | apply S3))) ?_
          refine hgo2 13 22 rfl rfl (by kernel_rfl) ?_ ?_
          · skip
            refine plain (y_fieldS rfl z_field57_1 rfl (rd_row (by repeat (first | exact Mh | apply Mt))) (by rw [Lane.hc_len]; omega)) rfl rfl rfl H101 ?_
            clear H101; intro a102 H102
            refine hfin (H102.sep.sub (by first | exact S0 | exact S1 | repeat (first | exact S1 | exact S0 | apply S2 | apply S3))) ?_
            refine hgo2 14 22 rfl rfl (by kernel_rfl) ?_ ?_
            · skip
              refine plain (y_loadR rfl z_agg3 rfl (rd_row (by repeat (first | exact Mh | apply Mt))) (by simp only [hai, Int.toNat_natCast, Nat.zero_add, Nat.add_zero]; exact (show _ = some (i64 (L.getD i Lane.Held.zero).who) from Lane.hc_at (c := 1) hi (by omega)))) rfl rfl rfl H102 ?_
              clear H102; intro a103 H103
              refine hfin (H103.sep.sub (by first | exact S0 | exact S1 | repeat (first | exact S1 | exact S0 | apply S2 | apply S3))) ?_
              refine hgo 22 rfl (by kernel_rfl) ?_
              refine plain (y_loadR rfl z_agg3 rfl (rd_row (by repeat (first | exact Mh | apply Mt))) (by simp only [hai, Int.toNat_natCast, Nat.zero_add, Nat.add_zero]; exact (show _ = some (i64 (L.getD i Lane.Held.zero).turn) from Lane.hc_at (c := 2) hi (by omega)))) rfl rfl rfl H103 ?_
              clear H103; intro a104 H104
              refine hfin (H104.sep.sub (by first | exact S0 | exact S1 | repeat (first | exact S1 | exact S0 | apply S2 | apply S3))) ?_
              refine htake 23 rfl (by kernel_rfl) (y_add rfl rfl rfl (by first | exact w64 (by omega) (by omega) | rfl)) rfl rfl rfl (fun _ h => (h.sub (by first | exact S0 | exact S1 | repeat (first | exact S1 | exact S0 | apply S2 | apply S3)))) H104 ?_
              clear H104; intro a105 H105
              refine htake 24 rfl (by kernel_rfl) (y_build rfl z_zeroN57 z_places57 rfl (lay_1 (off := 0) (n := 3) rfl q_len_c3 (by decide) q_spl_c3_0_c1 (lay_1 (off := 1) (n := 3) rfl q_len_c3 (by decide) q_spl_c3_1_c1 (lay_1 (off := 2) (n := 3) rfl q_len_c3 (by decide) q_spl_c3_2_c1 lay_n (by rfl)) (by rfl)) (by rfl))) rfl rfl rfl (fun _ h => (h.sub (by first | exact S0 | exact S1 | repeat (first | exact S1 | exact S0 | apply S2 | apply S3)))) H105 ?_
              clear H105; intro a106 H106
              refine hgo 25 rfl (by kernel_rfl) ?_
              refine plain (y_ixR rfl Tryd.underlying58 z_size57 rfl rfl (by omega) (by omega) (rd_row (by repeat (first | exact Mh | apply Mt))) (by rw [Lane.hc_len]; omega)) rfl rfl rfl H106 ?_
              clear H106; intro a107 H107
              refine hfin (H107.sep.sub (by first | exact S0 | exact S1 | repeat (first | exact S1 | exact S0 | apply S2 | apply S3))) ?_
              refine hgo 26 rfl (by kernel_rfl) ?_
              refine st_storeRow rfl z_size57 rfl rfl (agg_cells _) (by simp [i64, Value.oneCell']) rfl (by decide) (by repeat (first | exact Uh | apply Ut)) (by rw [Lane.hc_len]; omega) rfl rfl H107 ?_
              clear H107; intro wx108 H108
              refine hfin (H108.sep.sub (by first | exact S0 | exact S1 | repeat (first | exact S1 | exact S0 | apply S2 | apply S3))) ?_
              refine hdone (by kernel_rfl) ?_
              refine then_n ?_
              refine wp_seq ?_
              refine reg ?_
              refine plain (y_move rfl rfl) rfl rfl rfl H108 ?_
              clear H108; intro a109 H109
              refine plain (y_assign rfl rfl) rfl rfl rfl H109 ?_
              clear H109; intro a110 H110
              refine fin ?_
              refine then_n ?_
              refine wp_ret ?_
              -- return 8
              refine ret1 rfl H110 rfl ?_
              first | (rw [hyx]; refine ⟨_, _, rfl, ⟨hCK0, (.slice A L.length cc), ?_⟩, H110.sep.sub (List.Sublist.cons _ (List.Sublist.refl _))⟩; dsimp only; rw [Lane.put_at hpl, Lane.hc_set _ _ _ hi, List.length_set]; rfl) | (rw [Lane.take_no hno]; exact ⟨_, _, rfl, ⟨rfl, _, rfl⟩, H110.sep.sub (List.Sublist.cons _ (List.Sublist.refl _))⟩)
            · skip
              refine plain (y_loadR rfl z_agg3 rfl (rd_row (by repeat (first | exact Mh | apply Mt))) (by simp only [hai, Int.toNat_natCast, Nat.zero_add, Nat.add_zero]; exact (show _ = some (i64 (L.getD i Lane.Held.zero).turn) from Lane.hc_at (c := 2) hi (by omega)))) rfl rfl rfl H102 ?_
              clear H102; intro a111 H111
              refine hfin (H111.sep.sub (by first | exact S0 | exact S1 | repeat (first | exact S1 | exact S0 | apply S2 | apply S3))) ?_
              refine htake 23 rfl (by kernel_rfl) (y_add rfl rfl rfl (by first | exact w64 (by omega) (by omega) | rfl)) rfl rfl rfl (fun _ h => (h.sub (by first | exact S0 | exact S1 | repeat (first | exact S1 | exact S0 | apply S2 | apply S3)))) H111 ?_
              clear H111; intro a112 H112
              refine hgo 14 rfl (by kernel_rfl) ?_
              refine plain (y_loadR rfl z_agg3 rfl (rd_row (by repeat (first | exact Mh | apply Mt))) (by simp only [hai, Int.toNat_natCast, Nat.zero_add, Nat.add_zero]; exact (show _ = some (i64 (L.getD i Lane.Held.zero).who) from Lane.hc_at (c := 1) hi (by omega)))) rfl rfl rfl H112 ?_
              clear H112; intro a113 H113
              refine hfin (H113.sep.sub (by first | exact S0 | exact S1 | repeat (first | exact S1 | exact S0 | apply S2 | apply S3))) ?_
              refine htake 24 rfl (by kernel_rfl) (y_build rfl z_zeroN57 z_places57 rfl (lay_1 (off := 0) (n := 3) rfl q_len_c3 (by decide) q_spl_c3_0_c1 (lay_1 (off := 1) (n := 3) rfl q_len_c3 (by decide) q_spl_c3_1_c1 (lay_1 (off := 2) (n := 3) rfl q_len_c3 (by decide) q_spl_c3_2_c1 lay_n (by rfl)) (by rfl)) (by rfl))) rfl rfl rfl (fun _ h => (h.sub (by first | exact S0 | exact S1 | repeat (first | exact S1 | exact S0 | apply S2 | apply S3)))) H113 ?_
              clear H113; intro a114 H114
              refine hgo 25 rfl (by kernel_rfl) ?_
              refine plain (y_ixR rfl Tryd.underlying58 z_size57 rfl rfl (by omega) (by omega) (rd_row (by repeat (first | exact Mh | apply Mt))) (by rw [Lane.hc_len]; omega)) rfl rfl rfl H114 ?_
              clear H114; intro a115 H115
              refine hfin (H115.sep.sub (by first | exact S0 | exact S1 | repeat (first | exact S1 | exact S0 | apply S2 | apply S3))) ?_
              refine hgo 26 rfl (by kernel_rfl) ?_
              refine st_storeRow rfl z_size57 rfl rfl (agg_cells _) (by simp [i64, Value.oneCell']) rfl (by decide) (by repeat (first | exact Uh | apply Ut)) (by rw [Lane.hc_len]; omega) rfl rfl H115 ?_
              clear H115; intro wx116 H116
              refine hfin (H116.sep.sub (by first | exact S0 | exact S1 | repeat (first | exact S1 | exact S0 | apply S2 | apply S3))) ?_
              refine hdone (by kernel_rfl) ?_
              refine then_n ?_
              refine wp_seq ?_
              refine reg ?_
              refine plain (y_move rfl rfl) rfl rfl rfl H116 ?_
              clear H116; intro a117 H117
              refine plain (y_assign rfl rfl) rfl rfl rfl H117 ?_
              clear H117; intro a118 H118
              refine fin ?_
              refine then_n ?_
              refine wp_ret ?_
              -- return 9
              refine ret1 rfl H118 rfl ?_
              first | (rw [hyx]; refine ⟨_, _, rfl, ⟨hCK0, (.slice A L.length cc), ?_⟩, H118.sep.sub (List.Sublist.cons _ (List.Sublist.refl _))⟩; dsimp only; rw [Lane.put_at hpl, Lane.hc_set _ _ _ hi, List.length_set]; rfl) | (rw [Lane.take_no hno]; exact ⟨_, _, rfl, ⟨rfl, _, rfl⟩, H118.sep.sub (List.Sublist.cons _ (List.Sublist.refl _))⟩)
          · skip
            refine plain (y_loadR rfl z_agg3 rfl (rd_row (by repeat (first | exact Mh | apply Mt))) (by simp only [hai, Int.toNat_natCast, Nat.zero_add, Nat.add_zero]; exact (show _ = some (i64 (L.getD i Lane.Held.zero).turn) from Lane.hc_at (c := 2) hi (by omega)))) rfl rfl rfl H101 ?_
            clear H101; intro a119 H119
            refine hfin (H119.sep.sub (by first | exact S0 | exact S1 | repeat (first | exact S1 | exact S0 | apply S2 | apply S3))) ?_
            refine htake 23 rfl (by kernel_rfl) (y_add rfl rfl rfl (by first | exact w64 (by omega) (by omega) | rfl)) rfl rfl rfl (fun _ h => (h.sub (by first | exact S0 | exact S1 | repeat (first | exact S1 | exact S0 | apply S2 | apply S3)))) H119 ?_
            clear H119; intro a120 H120
            refine hgo 13 rfl (by kernel_rfl) ?_
            refine plain (y_fieldS rfl z_field57_1 rfl (rd_row (by repeat (first | exact Mh | apply Mt))) (by rw [Lane.hc_len]; omega)) rfl rfl rfl H120 ?_
            clear H120; intro a121 H121
            refine hfin (H121.sep.sub (by first | exact S0 | exact S1 | repeat (first | exact S1 | exact S0 | apply S2 | apply S3))) ?_
            refine hgo 14 rfl (by kernel_rfl) ?_
            refine plain (y_loadR rfl z_agg3 rfl (rd_row (by repeat (first | exact Mh | apply Mt))) (by simp only [hai, Int.toNat_natCast, Nat.zero_add, Nat.add_zero]; exact (show _ = some (i64 (L.getD i Lane.Held.zero).who) from Lane.hc_at (c := 1) hi (by omega)))) rfl rfl rfl H121 ?_
            clear H121; intro a122 H122
            refine hfin (H122.sep.sub (by first | exact S0 | exact S1 | repeat (first | exact S1 | exact S0 | apply S2 | apply S3))) ?_
            refine htake 24 rfl (by kernel_rfl) (y_build rfl z_zeroN57 z_places57 rfl (lay_1 (off := 0) (n := 3) rfl q_len_c3 (by decide) q_spl_c3_0_c1 (lay_1 (off := 1) (n := 3) rfl q_len_c3 (by decide) q_spl_c3_1_c1 (lay_1 (off := 2) (n := 3) rfl q_len_c3 (by decide) q_spl_c3_2_c1 lay_n (by rfl)) (by rfl)) (by rfl))) rfl rfl rfl (fun _ h => (h.sub (by first | exact S0 | exact S1 | repeat (first | exact S1 | exact S0 | apply S2 | apply S3)))) H122 ?_
            clear H122; intro a123 H123
            refine hgo 25 rfl (by kernel_rfl) ?_
            refine plain (y_ixR rfl Tryd.underlying58 z_size57 rfl rfl (by omega) (by omega) (rd_row (by repeat (first | exact Mh | apply Mt))) (by rw [Lane.hc_len]; omega)) rfl rfl rfl H123 ?_
            clear H123; intro a124 H124
            refine hfin (H124.sep.sub (by first | exact S0 | exact S1 | repeat (first | exact S1 | exact S0 | apply S2 | apply S3))) ?_
            refine hgo 26 rfl (by kernel_rfl) ?_
            refine st_storeRow rfl z_size57 rfl rfl (agg_cells _) (by simp [i64, Value.oneCell']) rfl (by decide) (by repeat (first | exact Uh | apply Ut)) (by rw [Lane.hc_len]; omega) rfl rfl H124 ?_
            clear H124; intro wx125 H125
            refine hfin (H125.sep.sub (by first | exact S0 | exact S1 | repeat (first | exact S1 | exact S0 | apply S2 | apply S3))) ?_
            refine hdone (by kernel_rfl) ?_
            refine then_n ?_
            refine wp_seq ?_
            refine reg ?_
            refine plain (y_move rfl rfl) rfl rfl rfl H125 ?_
            clear H125; intro a126 H126
            refine plain (y_assign rfl rfl) rfl rfl rfl H126 ?_
            clear H126; intro a127 H127
            refine fin ?_
            refine then_n ?_
            refine wp_ret ?_
            -- return 10
            refine ret1 rfl H127 rfl ?_
            first | (rw [hyx]; refine ⟨_, _, rfl, ⟨hCK0, (.slice A L.length cc), ?_⟩, H127.sep.sub (List.Sublist.cons _ (List.Sublist.refl _))⟩; dsimp only; rw [Lane.put_at hpl, Lane.hc_set _ _ _ hi, List.length_set]; rfl) | (rw [Lane.take_no hno]; exact ⟨_, _, rfl, ⟨rfl, _, rfl⟩, H127.sep.sub (List.Sublist.cons _ (List.Sublist.refl _))⟩)
    · skip
      refine plain (y_ixR rfl Tryd.underlying58 z_size57 rfl rfl (by omega) (by omega) (rd_row (by repeat (first | exact Mh | apply Mt))) (by rw [Lane.hc_len]; omega)) rfl rfl rfl H33 ?_
      clear H33; intro a128 H128
      refine hfin (H128.sep.sub (by first | exact S0 | exact S1 | repeat (first | exact S1 | exact S0 | apply S2 | apply S3))) ?_
      refine hgo2 12 21 rfl rfl (by kernel_rfl) ?_ ?_
      · skip
        refine plain (y_ixR rfl Tryd.underlying58 z_size57 rfl rfl (by omega) (by omega) (rd_row (by repeat (first | exact Mh | apply Mt))) (by rw [Lane.hc_len]; omega)) rfl rfl rfl H128 ?_
        clear H128; intro a129 H129
        refine hfin (H129.sep.sub (by first | exact S0 | exact S1 | repeat (first | exact S1 | exact S0 | apply S2 | apply S3))) ?_
        refine hgo2 13 21 rfl rfl (by kernel_rfl) ?_ ?_
        · skip
          refine plain (y_fieldS rfl z_field57_1 rfl (rd_row (by repeat (first | exact Mh | apply Mt))) (by rw [Lane.hc_len]; omega)) rfl rfl rfl H129 ?_
          clear H129; intro a130 H130
          refine hfin (H130.sep.sub (by first | exact S0 | exact S1 | repeat (first | exact S1 | exact S0 | apply S2 | apply S3))) ?_
          refine hgo2 14 21 rfl rfl (by kernel_rfl) ?_ ?_
          · skip
            refine plain (y_loadR rfl z_agg3 rfl (rd_row (by repeat (first | exact Mh | apply Mt))) (by simp only [hai, Int.toNat_natCast, Nat.zero_add, Nat.add_zero]; exact (show _ = some (i64 (L.getD i Lane.Held.zero).who) from Lane.hc_at (c := 1) hi (by omega)))) rfl rfl rfl H130 ?_
            clear H130; intro a131 H131
            refine hfin (H131.sep.sub (by first | exact S0 | exact S1 | repeat (first | exact S1 | exact S0 | apply S2 | apply S3))) ?_
            refine hgo 21 rfl (by kernel_rfl) ?_
            refine plain (y_fieldS rfl z_field57_2 rfl (rd_row (by repeat (first | exact Mh | apply Mt))) (by rw [Lane.hc_len]; omega)) rfl rfl rfl H131 ?_
            clear H131; intro a132 H132
            refine hfin (H132.sep.sub (by first | exact S0 | exact S1 | repeat (first | exact S1 | exact S0 | apply S2 | apply S3))) ?_
            refine hgo 22 rfl (by kernel_rfl) ?_
            refine plain (y_loadR rfl z_agg3 rfl (rd_row (by repeat (first | exact Mh | apply Mt))) (by simp only [hai, Int.toNat_natCast, Nat.zero_add, Nat.add_zero]; exact (show _ = some (i64 (L.getD i Lane.Held.zero).turn) from Lane.hc_at (c := 2) hi (by omega)))) rfl rfl rfl H132 ?_
            clear H132; intro a133 H133
            refine hfin (H133.sep.sub (by first | exact S0 | exact S1 | repeat (first | exact S1 | exact S0 | apply S2 | apply S3))) ?_
            refine htake 23 rfl (by kernel_rfl) (y_add rfl rfl rfl (by first | exact w64 (by omega) (by omega) | rfl)) rfl rfl rfl (fun _ h => (h.sub (by first | exact S0 | exact S1 | repeat (first | exact S1 | exact S0 | apply S2 | apply S3)))) H133 ?_
            clear H133; intro a134 H134
            refine htake 24 rfl (by kernel_rfl) (y_build rfl z_zeroN57 z_places57 rfl (lay_1 (off := 0) (n := 3) rfl q_len_c3 (by decide) q_spl_c3_0_c1 (lay_1 (off := 1) (n := 3) rfl q_len_c3 (by decide) q_spl_c3_1_c1 (lay_1 (off := 2) (n := 3) rfl q_len_c3 (by decide) q_spl_c3_2_c1 lay_n (by rfl)) (by rfl)) (by rfl))) rfl rfl rfl (fun _ h => (h.sub (by first | exact S0 | exact S1 | repeat (first | exact S1 | exact S0 | apply S2 | apply S3)))) H134 ?_
            clear H134; intro a135 H135
            refine hgo 25 rfl (by kernel_rfl) ?_
            refine plain (y_ixR rfl Tryd.underlying58 z_size57 rfl rfl (by omega) (by omega) (rd_row (by repeat (first | exact Mh | apply Mt))) (by rw [Lane.hc_len]; omega)) rfl rfl rfl H135 ?_
            clear H135; intro a136 H136
            refine hfin (H136.sep.sub (by first | exact S0 | exact S1 | repeat (first | exact S1 | exact S0 | apply S2 | apply S3))) ?_
            refine hgo 26 rfl (by kernel_rfl) ?_
            refine st_storeRow rfl z_size57 rfl rfl (agg_cells _) (by simp [i64, Value.oneCell']) rfl (by decide) (by repeat (first | exact Uh | apply Ut)) (by rw [Lane.hc_len]; omega) rfl rfl H136 ?_
            clear H136; intro wx137 H137
            refine hfin (H137.sep.sub (by first | exact S0 | exact S1 | repeat (first | exact S1 | exact S0 | apply S2 | apply S3))) ?_
            refine hdone (by kernel_rfl) ?_
            refine then_n ?_
            refine wp_seq ?_
            refine reg ?_
            refine plain (y_move rfl rfl) rfl rfl rfl H137 ?_
            clear H137; intro a138 H138
            refine plain (y_assign rfl rfl) rfl rfl rfl H138 ?_
            clear H138; intro a139 H139
            refine fin ?_
            refine then_n ?_
            refine wp_ret ?_
            -- return 11
            refine ret1 rfl H139 rfl ?_
            first | (rw [hyx]; refine ⟨_, _, rfl, ⟨hCK0, (.slice A L.length cc), ?_⟩, H139.sep.sub (List.Sublist.cons _ (List.Sublist.refl _))⟩; dsimp only; rw [Lane.put_at hpl, Lane.hc_set _ _ _ hi, List.length_set]; rfl) | (rw [Lane.take_no hno]; exact ⟨_, _, rfl, ⟨rfl, _, rfl⟩, H139.sep.sub (List.Sublist.cons _ (List.Sublist.refl _))⟩)
          · skip
            refine plain (y_fieldS rfl z_field57_2 rfl (rd_row (by repeat (first | exact Mh | apply Mt))) (by rw [Lane.hc_len]; omega)) rfl rfl rfl H130 ?_
            clear H130; intro a140 H140
            refine hfin (H140.sep.sub (by first | exact S0 | exact S1 | repeat (first | exact S1 | exact S0 | apply S2 | apply S3))) ?_
            refine hgo2 14 22 rfl rfl (by kernel_rfl) ?_ ?_
            · skip
              refine plain (y_loadR rfl z_agg3 rfl (rd_row (by repeat (first | exact Mh | apply Mt))) (by simp only [hai, Int.toNat_natCast, Nat.zero_add, Nat.add_zero]; exact (show _ = some (i64 (L.getD i Lane.Held.zero).who) from Lane.hc_at (c := 1) hi (by omega)))) rfl rfl rfl H140 ?_
              clear H140; intro a141 H141
              refine hfin (H141.sep.sub (by first | exact S0 | exact S1 | repeat (first | exact S1 | exact S0 | apply S2 | apply S3))) ?_
              refine hgo 22 rfl (by kernel_rfl) ?_
              refine plain (y_loadR rfl z_agg3 rfl (rd_row (by repeat (first | exact Mh | apply Mt))) (by simp only [hai, Int.toNat_natCast, Nat.zero_add, Nat.add_zero]; exact (show _ = some (i64 (L.getD i Lane.Held.zero).turn) from Lane.hc_at (c := 2) hi (by omega)))) rfl rfl rfl H141 ?_
              clear H141; intro a142 H142
              refine hfin (H142.sep.sub (by first | exact S0 | exact S1 | repeat (first | exact S1 | exact S0 | apply S2 | apply S3))) ?_
              refine htake 23 rfl (by kernel_rfl) (y_add rfl rfl rfl (by first | exact w64 (by omega) (by omega) | rfl)) rfl rfl rfl (fun _ h => (h.sub (by first | exact S0 | exact S1 | repeat (first | exact S1 | exact S0 | apply S2 | apply S3)))) H142 ?_
              clear H142; intro a143 H143
              refine htake 24 rfl (by kernel_rfl) (y_build rfl z_zeroN57 z_places57 rfl (lay_1 (off := 0) (n := 3) rfl q_len_c3 (by decide) q_spl_c3_0_c1 (lay_1 (off := 1) (n := 3) rfl q_len_c3 (by decide) q_spl_c3_1_c1 (lay_1 (off := 2) (n := 3) rfl q_len_c3 (by decide) q_spl_c3_2_c1 lay_n (by rfl)) (by rfl)) (by rfl))) rfl rfl rfl (fun _ h => (h.sub (by first | exact S0 | exact S1 | repeat (first | exact S1 | exact S0 | apply S2 | apply S3)))) H143 ?_
              clear H143; intro a144 H144
              refine hgo 25 rfl (by kernel_rfl) ?_
              refine plain (y_ixR rfl Tryd.underlying58 z_size57 rfl rfl (by omega) (by omega) (rd_row (by repeat (first | exact Mh | apply Mt))) (by rw [Lane.hc_len]; omega)) rfl rfl rfl H144 ?_
              clear H144; intro a145 H145
              refine hfin (H145.sep.sub (by first | exact S0 | exact S1 | repeat (first | exact S1 | exact S0 | apply S2 | apply S3))) ?_
              refine hgo 26 rfl (by kernel_rfl) ?_
              refine st_storeRow rfl z_size57 rfl rfl (agg_cells _) (by simp [i64, Value.oneCell']) rfl (by decide) (by repeat (first | exact Uh | apply Ut)) (by rw [Lane.hc_len]; omega) rfl rfl H145 ?_
              clear H145; intro wx146 H146
              refine hfin (H146.sep.sub (by first | exact S0 | exact S1 | repeat (first | exact S1 | exact S0 | apply S2 | apply S3))) ?_
              refine hdone (by kernel_rfl) ?_
              refine then_n ?_
              refine wp_seq ?_
              refine reg ?_
              refine plain (y_move rfl rfl) rfl rfl rfl H146 ?_
              clear H146; intro a147 H147
              refine plain (y_assign rfl rfl) rfl rfl rfl H147 ?_
              clear H147; intro a148 H148
              refine fin ?_
              refine then_n ?_
              refine wp_ret ?_
              -- return 12
              refine ret1 rfl H148 rfl ?_
              first | (rw [hyx]; refine ⟨_, _, rfl, ⟨hCK0, (.slice A L.length cc), ?_⟩, H148.sep.sub (List.Sublist.cons _ (List.Sublist.refl _))⟩; dsimp only; rw [Lane.put_at hpl, Lane.hc_set _ _ _ hi, List.length_set]; rfl) | (rw [Lane.take_no hno]; exact ⟨_, _, rfl, ⟨rfl, _, rfl⟩, H148.sep.sub (List.Sublist.cons _ (List.Sublist.refl _))⟩)
            · skip
              refine plain (y_loadR rfl z_agg3 rfl (rd_row (by repeat (first | exact Mh | apply Mt))) (by simp only [hai, Int.toNat_natCast, Nat.zero_add, Nat.add_zero]; exact (show _ = some (i64 (L.getD i Lane.Held.zero).turn) from Lane.hc_at (c := 2) hi (by omega)))) rfl rfl rfl H140 ?_
              clear H140; intro a149 H149
              refine hfin (H149.sep.sub (by first | exact S0 | exact S1 | repeat (first | exact S1 | exact S0 | apply S2 | apply S3))) ?_
              refine htake 23 rfl (by kernel_rfl) (y_add rfl rfl rfl (by first | exact w64 (by omega) (by omega) | rfl)) rfl rfl rfl (fun _ h => (h.sub (by first | exact S0 | exact S1 | repeat (first | exact S1 | exact S0 | apply S2 | apply S3)))) H149 ?_
              clear H149; intro a150 H150
              refine hgo 14 rfl (by kernel_rfl) ?_
              refine plain (y_loadR rfl z_agg3 rfl (rd_row (by repeat (first | exact Mh | apply Mt))) (by simp only [hai, Int.toNat_natCast, Nat.zero_add, Nat.add_zero]; exact (show _ = some (i64 (L.getD i Lane.Held.zero).who) from Lane.hc_at (c := 1) hi (by omega)))) rfl rfl rfl H150 ?_
              clear H150; intro a151 H151
              refine hfin (H151.sep.sub (by first | exact S0 | exact S1 | repeat (first | exact S1 | exact S0 | apply S2 | apply S3))) ?_
              refine htake 24 rfl (by kernel_rfl) (y_build rfl z_zeroN57 z_places57 rfl (lay_1 (off := 0) (n := 3) rfl q_len_c3 (by decide) q_spl_c3_0_c1 (lay_1 (off := 1) (n := 3) rfl q_len_c3 (by decide) q_spl_c3_1_c1 (lay_1 (off := 2) (n := 3) rfl q_len_c3 (by decide) q_spl_c3_2_c1 lay_n (by rfl)) (by rfl)) (by rfl))) rfl rfl rfl (fun _ h => (h.sub (by first | exact S0 | exact S1 | repeat (first | exact S1 | exact S0 | apply S2 | apply S3)))) H151 ?_
              clear H151; intro a152 H152
              refine hgo 25 rfl (by kernel_rfl) ?_
              refine plain (y_ixR rfl Tryd.underlying58 z_size57 rfl rfl (by omega) (by omega) (rd_row (by repeat (first | exact Mh | apply Mt))) (by rw [Lane.hc_len]; omega)) rfl rfl rfl H152 ?_
              clear H152; intro a153 H153
              refine hfin (H153.sep.sub (by first | exact S0 | exact S1 | repeat (first | exact S1 | exact S0 | apply S2 | apply S3))) ?_
              refine hgo 26 rfl (by kernel_rfl) ?_
              refine st_storeRow rfl z_size57 rfl rfl (agg_cells _) (by simp [i64, Value.oneCell']) rfl (by decide) (by repeat (first | exact Uh | apply Ut)) (by rw [Lane.hc_len]; omega) rfl rfl H153 ?_
              clear H153; intro wx154 H154
              refine hfin (H154.sep.sub (by first | exact S0 | exact S1 | repeat (first | exact S1 | exact S0 | apply S2 | apply S3))) ?_
              refine hdone (by kernel_rfl) ?_
              refine then_n ?_
              refine wp_seq ?_
              refine reg ?_
              refine plain (y_move rfl rfl) rfl rfl rfl H154 ?_
              clear H154; intro a155 H155
              refine plain (y_assign rfl rfl) rfl rfl rfl H155 ?_
              clear H155; intro a156 H156
              refine fin ?_
              refine then_n ?_
              refine wp_ret ?_
              -- return 13
              refine ret1 rfl H156 rfl ?_
              first | (rw [hyx]; refine ⟨_, _, rfl, ⟨hCK0, (.slice A L.length cc), ?_⟩, H156.sep.sub (List.Sublist.cons _ (List.Sublist.refl _))⟩; dsimp only; rw [Lane.put_at hpl, Lane.hc_set _ _ _ hi, List.length_set]; rfl) | (rw [Lane.take_no hno]; exact ⟨_, _, rfl, ⟨rfl, _, rfl⟩, H156.sep.sub (List.Sublist.cons _ (List.Sublist.refl _))⟩)
        · skip
          refine plain (y_fieldS rfl z_field57_2 rfl (rd_row (by repeat (first | exact Mh | apply Mt))) (by rw [Lane.hc_len]; omega)) rfl rfl rfl H129 ?_
          clear H129; intro a157 H157
          refine hfin (H157.sep.sub (by first | exact S0 | exact S1 | repeat (first | exact S1 | exact S0 | apply S2 | apply S3))) ?_
          refine hgo2 13 22 rfl rfl (by kernel_rfl) ?_ ?_
          · skip
            refine plain (y_fieldS rfl z_field57_1 rfl (rd_row (by repeat (first | exact Mh | apply Mt))) (by rw [Lane.hc_len]; omega)) rfl rfl rfl H157 ?_
            clear H157; intro a158 H158
            refine hfin (H158.sep.sub (by first | exact S0 | exact S1 | repeat (first | exact S1 | exact S0 | apply S2 | apply S3))) ?_
            refine hgo2 14 22 rfl rfl (by kernel_rfl) ?_ ?_
            · skip
              refine plain (y_loadR rfl z_agg3 rfl (rd_row (by repeat (first | exact Mh | apply Mt))) (by simp only [hai, Int.toNat_natCast, Nat.zero_add, Nat.add_zero]; exact (show _ = some (i64 (L.getD i Lane.Held.zero).who) from Lane.hc_at (c := 1) hi (by omega)))) rfl rfl rfl H158 ?_
              clear H158; intro a159 H159
              refine hfin (H159.sep.sub (by first | exact S0 | exact S1 | repeat (first | exact S1 | exact S0 | apply S2 | apply S3))) ?_
              refine hgo 22 rfl (by kernel_rfl) ?_
              refine plain (y_loadR rfl z_agg3 rfl (rd_row (by repeat (first | exact Mh | apply Mt))) (by simp only [hai, Int.toNat_natCast, Nat.zero_add, Nat.add_zero]; exact (show _ = some (i64 (L.getD i Lane.Held.zero).turn) from Lane.hc_at (c := 2) hi (by omega)))) rfl rfl rfl H159 ?_
              clear H159; intro a160 H160
              refine hfin (H160.sep.sub (by first | exact S0 | exact S1 | repeat (first | exact S1 | exact S0 | apply S2 | apply S3))) ?_
              refine htake 23 rfl (by kernel_rfl) (y_add rfl rfl rfl (by first | exact w64 (by omega) (by omega) | rfl)) rfl rfl rfl (fun _ h => (h.sub (by first | exact S0 | exact S1 | repeat (first | exact S1 | exact S0 | apply S2 | apply S3)))) H160 ?_
              clear H160; intro a161 H161
              refine htake 24 rfl (by kernel_rfl) (y_build rfl z_zeroN57 z_places57 rfl (lay_1 (off := 0) (n := 3) rfl q_len_c3 (by decide) q_spl_c3_0_c1 (lay_1 (off := 1) (n := 3) rfl q_len_c3 (by decide) q_spl_c3_1_c1 (lay_1 (off := 2) (n := 3) rfl q_len_c3 (by decide) q_spl_c3_2_c1 lay_n (by rfl)) (by rfl)) (by rfl))) rfl rfl rfl (fun _ h => (h.sub (by first | exact S0 | exact S1 | repeat (first | exact S1 | exact S0 | apply S2 | apply S3)))) H161 ?_
              clear H161; intro a162 H162
              refine hgo 25 rfl (by kernel_rfl) ?_
              refine plain (y_ixR rfl Tryd.underlying58 z_size57 rfl rfl (by omega) (by omega) (rd_row (by repeat (first | exact Mh | apply Mt))) (by rw [Lane.hc_len]; omega)) rfl rfl rfl H162 ?_
              clear H162; intro a163 H163
              refine hfin (H163.sep.sub (by first | exact S0 | exact S1 | repeat (first | exact S1 | exact S0 | apply S2 | apply S3))) ?_
              refine hgo 26 rfl (by kernel_rfl) ?_
              refine st_storeRow rfl z_size57 rfl rfl (agg_cells _) (by simp [i64, Value.oneCell']) rfl (by decide) (by repeat (first | exact Uh | apply Ut)) (by rw [Lane.hc_len]; omega) rfl rfl H163 ?_
              clear H163; intro wx164 H164
              refine hfin (H164.sep.sub (by first | exact S0 | exact S1 | repeat (first | exact S1 | exact S0 | apply S2 | apply S3))) ?_
              refine hdone (by kernel_rfl) ?_
              refine then_n ?_
              refine wp_seq ?_
              refine reg ?_
              refine plain (y_move rfl rfl) rfl rfl rfl H164 ?_
              clear H164; intro a165 H165
              refine plain (y_assign rfl rfl) rfl rfl rfl H165 ?_
              clear H165; intro a166 H166
              refine fin ?_
              refine then_n ?_
              refine wp_ret ?_
              -- return 14
              refine ret1 rfl H166 rfl ?_
              first | (rw [hyx]; refine ⟨_, _, rfl, ⟨hCK0, (.slice A L.length cc), ?_⟩, H166.sep.sub (List.Sublist.cons _ (List.Sublist.refl _))⟩; dsimp only; rw [Lane.put_at hpl, Lane.hc_set _ _ _ hi, List.length_set]; rfl) | (rw [Lane.take_no hno]; exact ⟨_, _, rfl, ⟨rfl, _, rfl⟩, H166.sep.sub (List.Sublist.cons _ (List.Sublist.refl _))⟩)
            · skip
              refine plain (y_loadR rfl z_agg3 rfl (rd_row (by repeat (first | exact Mh | apply Mt))) (by simp only [hai, Int.toNat_natCast, Nat.zero_add, Nat.add_zero]; exact (show _ = some (i64 (L.getD i Lane.Held.zero).turn) from Lane.hc_at (c := 2) hi (by omega)))) rfl rfl rfl H158 ?_
              clear H158; intro a167 H167
              refine hfin (H167.sep.sub (by first | exact S0 | exact S1 | repeat (first | exact S1 | exact S0 | apply S2 | apply S3))) ?_
              refine htake 23 rfl (by kernel_rfl) (y_add rfl rfl rfl (by first | exact w64 (by omega) (by omega) | rfl)) rfl rfl rfl (fun _ h => (h.sub (by first | exact S0 | exact S1 | repeat (first | exact S1 | exact S0 | apply S2 | apply S3)))) H167 ?_
              clear H167; intro a168 H168
              refine hgo 14 rfl (by kernel_rfl) ?_
              refine plain (y_loadR rfl z_agg3 rfl (rd_row (by repeat (first | exact Mh | apply Mt))) (by simp only [hai, Int.toNat_natCast, Nat.zero_add, Nat.add_zero]; exact (show _ = some (i64 (L.getD i Lane.Held.zero).who) from Lane.hc_at (c := 1) hi (by omega)))) rfl rfl rfl H168 ?_
              clear H168; intro a169 H169
              refine hfin (H169.sep.sub (by first | exact S0 | exact S1 | repeat (first | exact S1 | exact S0 | apply S2 | apply S3))) ?_
              refine htake 24 rfl (by kernel_rfl) (y_build rfl z_zeroN57 z_places57 rfl (lay_1 (off := 0) (n := 3) rfl q_len_c3 (by decide) q_spl_c3_0_c1 (lay_1 (off := 1) (n := 3) rfl q_len_c3 (by decide) q_spl_c3_1_c1 (lay_1 (off := 2) (n := 3) rfl q_len_c3 (by decide) q_spl_c3_2_c1 lay_n (by rfl)) (by rfl)) (by rfl))) rfl rfl rfl (fun _ h => (h.sub (by first | exact S0 | exact S1 | repeat (first | exact S1 | exact S0 | apply S2 | apply S3)))) H169 ?_
              clear H169; intro a170 H170
              refine hgo 25 rfl (by kernel_rfl) ?_
              refine plain (y_ixR rfl Tryd.underlying58 z_size57 rfl rfl (by omega) (by omega) (rd_row (by repeat (first | exact Mh | apply Mt))) (by rw [Lane.hc_len]; omega)) rfl rfl rfl H170 ?_
              clear H170; intro a171 H171
              refine hfin (H171.sep.sub (by first | exact S0 | exact S1 | repeat (first | exact S1 | exact S0 | apply S2 | apply S3))) ?_
              refine hgo 26 rfl (by kernel_rfl) ?_
              refine st_storeRow rfl z_size57 rfl rfl (agg_cells _) (by simp [i64, Value.oneCell']) rfl (by decide) (by repeat (first | exact Uh | apply Ut)) (by rw [Lane.hc_len]; omega) rfl rfl H171 ?_
              clear H171; intro wx172 H172
              refine hfin (H172.sep.sub (by first | exact S0 | exact S1 | repeat (first | exact S1 | exact S0 | apply S2 | apply S3))) ?_
              refine hdone (by kernel_rfl) ?_
              refine then_n ?_
              refine wp_seq ?_
              refine reg ?_
              refine plain (y_move rfl rfl) rfl rfl rfl H172 ?_
              clear H172; intro a173 H173
              refine plain (y_assign rfl rfl) rfl rfl rfl H173 ?_
              clear H173; intro a174 H174
              refine fin ?_
              refine then_n ?_
              refine wp_ret ?_
              -- return 15
              refine ret1 rfl H174 rfl ?_
              first | (rw [hyx]; refine ⟨_, _, rfl, ⟨hCK0, (.slice A L.length cc), ?_⟩, H174.sep.sub (List.Sublist.cons _ (List.Sublist.refl _))⟩; dsimp only; rw [Lane.put_at hpl, Lane.hc_set _ _ _ hi, List.length_set]; rfl) | (rw [Lane.take_no hno]; exact ⟨_, _, rfl, ⟨rfl, _, rfl⟩, H174.sep.sub (List.Sublist.cons _ (List.Sublist.refl _))⟩)
          · skip
            refine plain (y_loadR rfl z_agg3 rfl (rd_row (by repeat (first | exact Mh | apply Mt))) (by simp only [hai, Int.toNat_natCast, Nat.zero_add, Nat.add_zero]; exact (show _ = some (i64 (L.getD i Lane.Held.zero).turn) from Lane.hc_at (c := 2) hi (by omega)))) rfl rfl rfl H157 ?_
            clear H157; intro a175 H175
            refine hfin (H175.sep.sub (by first | exact S0 | exact S1 | repeat (first | exact S1 | exact S0 | apply S2 | apply S3))) ?_
            refine htake 23 rfl (by kernel_rfl) (y_add rfl rfl rfl (by first | exact w64 (by omega) (by omega) | rfl)) rfl rfl rfl (fun _ h => (h.sub (by first | exact S0 | exact S1 | repeat (first | exact S1 | exact S0 | apply S2 | apply S3)))) H175 ?_
            clear H175; intro a176 H176
            refine hgo 13 rfl (by kernel_rfl) ?_
            refine plain (y_fieldS rfl z_field57_1 rfl (rd_row (by repeat (first | exact Mh | apply Mt))) (by rw [Lane.hc_len]; omega)) rfl rfl rfl H176 ?_
            clear H176; intro a177 H177
            refine hfin (H177.sep.sub (by first | exact S0 | exact S1 | repeat (first | exact S1 | exact S0 | apply S2 | apply S3))) ?_
            refine hgo 14 rfl (by kernel_rfl) ?_
            refine plain (y_loadR rfl z_agg3 rfl (rd_row (by repeat (first | exact Mh | apply Mt))) (by simp only [hai, Int.toNat_natCast, Nat.zero_add, Nat.add_zero]; exact (show _ = some (i64 (L.getD i Lane.Held.zero).who) from Lane.hc_at (c := 1) hi (by omega)))) rfl rfl rfl H177 ?_
            clear H177; intro a178 H178
            refine hfin (H178.sep.sub (by first | exact S0 | exact S1 | repeat (first | exact S1 | exact S0 | apply S2 | apply S3))) ?_
            refine htake 24 rfl (by kernel_rfl) (y_build rfl z_zeroN57 z_places57 rfl (lay_1 (off := 0) (n := 3) rfl q_len_c3 (by decide) q_spl_c3_0_c1 (lay_1 (off := 1) (n := 3) rfl q_len_c3 (by decide) q_spl_c3_1_c1 (lay_1 (off := 2) (n := 3) rfl q_len_c3 (by decide) q_spl_c3_2_c1 lay_n (by rfl)) (by rfl)) (by rfl))) rfl rfl rfl (fun _ h => (h.sub (by first | exact S0 | exact S1 | repeat (first | exact S1 | exact S0 | apply S2 | apply S3)))) H178 ?_
            clear H178; intro a179 H179
            refine hgo 25 rfl (by kernel_rfl) ?_
            refine plain (y_ixR rfl Tryd.underlying58 z_size57 rfl rfl (by omega) (by omega) (rd_row (by repeat (first | exact Mh | apply Mt))) (by rw [Lane.hc_len]; omega)) rfl rfl rfl H179 ?_
            clear H179; intro a180 H180
            refine hfin (H180.sep.sub (by first | exact S0 | exact S1 | repeat (first | exact S1 | exact S0 | apply S2 | apply S3))) ?_
            refine hgo 26 rfl (by kernel_rfl) ?_
            refine st_storeRow rfl z_size57 rfl rfl (agg_cells _) (by simp [i64, Value.oneCell']) rfl (by decide) (by repeat (first | exact Uh | apply Ut)) (by rw [Lane.hc_len]; omega) rfl rfl H180 ?_
            clear H180; intro wx181 H181
            refine hfin (H181.sep.sub (by first | exact S0 | exact S1 | repeat (first | exact S1 | exact S0 | apply S2 | apply S3))) ?_
            refine hdone (by kernel_rfl) ?_
            refine then_n ?_
            refine wp_seq ?_
            refine reg ?_
            refine plain (y_move rfl rfl) rfl rfl rfl H181 ?_
            clear H181; intro a182 H182
            refine plain (y_assign rfl rfl) rfl rfl rfl H182 ?_
            clear H182; intro a183 H183
            refine fin ?_
            refine then_n ?_
            refine wp_ret ?_
            -- return 16
            refine ret1 rfl H183 rfl ?_
            first | (rw [hyx]; refine ⟨_, _, rfl, ⟨hCK0, (.slice A L.length cc), ?_⟩, H183.sep.sub (List.Sublist.cons _ (List.Sublist.refl _))⟩; dsimp only; rw [Lane.put_at hpl, Lane.hc_set _ _ _ hi, List.length_set]; rfl) | (rw [Lane.take_no hno]; exact ⟨_, _, rfl, ⟨rfl, _, rfl⟩, H183.sep.sub (List.Sublist.cons _ (List.Sublist.refl _))⟩)
      · skip
        refine plain (y_fieldS rfl z_field57_2 rfl (rd_row (by repeat (first | exact Mh | apply Mt))) (by rw [Lane.hc_len]; omega)) rfl rfl rfl H128 ?_
        clear H128; intro a184 H184
        refine hfin (H184.sep.sub (by first | exact S0 | exact S1 | repeat (first | exact S1 | exact S0 | apply S2 | apply S3))) ?_
        refine hgo2 12 22 rfl rfl (by kernel_rfl) ?_ ?_
        · skip
          refine plain (y_ixR rfl Tryd.underlying58 z_size57 rfl rfl (by omega) (by omega) (rd_row (by repeat (first | exact Mh | apply Mt))) (by rw [Lane.hc_len]; omega)) rfl rfl rfl H184 ?_
          clear H184; intro a185 H185
          refine hfin (H185.sep.sub (by first | exact S0 | exact S1 | repeat (first | exact S1 | exact S0 | apply S2 | apply S3))) ?_
          refine hgo2 13 22 rfl rfl (by kernel_rfl) ?_ ?_
          · skip
            refine plain (y_fieldS rfl z_field57_1 rfl (rd_row (by repeat (first | exact Mh | apply Mt))) (by rw [Lane.hc_len]; omega)) rfl rfl rfl H185 ?_
            clear H185; intro a186 H186
            refine hfin (H186.sep.sub (by first | exact S0 | exact S1 | repeat (first | exact S1 | exact S0 | apply S2 | apply S3))) ?_
            refine hgo2 14 22 rfl rfl (by kernel_rfl) ?_ ?_
            · skip
              refine plain (y_loadR rfl z_agg3 rfl (rd_row (by repeat (first | exact Mh | apply Mt))) (by simp only [hai, Int.toNat_natCast, Nat.zero_add, Nat.add_zero]; exact (show _ = some (i64 (L.getD i Lane.Held.zero).who) from Lane.hc_at (c := 1) hi (by omega)))) rfl rfl rfl H186 ?_
              clear H186; intro a187 H187
              refine hfin (H187.sep.sub (by first | exact S0 | exact S1 | repeat (first | exact S1 | exact S0 | apply S2 | apply S3))) ?_
              refine hgo 22 rfl (by kernel_rfl) ?_
              refine plain (y_loadR rfl z_agg3 rfl (rd_row (by repeat (first | exact Mh | apply Mt))) (by simp only [hai, Int.toNat_natCast, Nat.zero_add, Nat.add_zero]; exact (show _ = some (i64 (L.getD i Lane.Held.zero).turn) from Lane.hc_at (c := 2) hi (by omega)))) rfl rfl rfl H187 ?_
              clear H187; intro a188 H188
              refine hfin (H188.sep.sub (by first | exact S0 | exact S1 | repeat (first | exact S1 | exact S0 | apply S2 | apply S3))) ?_
              refine htake 23 rfl (by kernel_rfl) (y_add rfl rfl rfl (by first | exact w64 (by omega) (by omega) | rfl)) rfl rfl rfl (fun _ h => (h.sub (by first | exact S0 | exact S1 | repeat (first | exact S1 | exact S0 | apply S2 | apply S3)))) H188 ?_
              clear H188; intro a189 H189
              refine htake 24 rfl (by kernel_rfl) (y_build rfl z_zeroN57 z_places57 rfl (lay_1 (off := 0) (n := 3) rfl q_len_c3 (by decide) q_spl_c3_0_c1 (lay_1 (off := 1) (n := 3) rfl q_len_c3 (by decide) q_spl_c3_1_c1 (lay_1 (off := 2) (n := 3) rfl q_len_c3 (by decide) q_spl_c3_2_c1 lay_n (by rfl)) (by rfl)) (by rfl))) rfl rfl rfl (fun _ h => (h.sub (by first | exact S0 | exact S1 | repeat (first | exact S1 | exact S0 | apply S2 | apply S3)))) H189 ?_
              clear H189; intro a190 H190
              refine hgo 25 rfl (by kernel_rfl) ?_
              refine plain (y_ixR rfl Tryd.underlying58 z_size57 rfl rfl (by omega) (by omega) (rd_row (by repeat (first | exact Mh | apply Mt))) (by rw [Lane.hc_len]; omega)) rfl rfl rfl H190 ?_
              clear H190; intro a191 H191
              refine hfin (H191.sep.sub (by first | exact S0 | exact S1 | repeat (first | exact S1 | exact S0 | apply S2 | apply S3))) ?_
              refine hgo 26 rfl (by kernel_rfl) ?_
              refine st_storeRow rfl z_size57 rfl rfl (agg_cells _) (by simp [i64, Value.oneCell']) rfl (by decide) (by repeat (first | exact Uh | apply Ut)) (by rw [Lane.hc_len]; omega) rfl rfl H191 ?_
              clear H191; intro wx192 H192
              refine hfin (H192.sep.sub (by first | exact S0 | exact S1 | repeat (first | exact S1 | exact S0 | apply S2 | apply S3))) ?_
              refine hdone (by kernel_rfl) ?_
              refine then_n ?_
              refine wp_seq ?_
              refine reg ?_
              refine plain (y_move rfl rfl) rfl rfl rfl H192 ?_
              clear H192; intro a193 H193
              refine plain (y_assign rfl rfl) rfl rfl rfl H193 ?_
              clear H193; intro a194 H194
              refine fin ?_
              refine then_n ?_
              refine wp_ret ?_
              -- return 17
              refine ret1 rfl H194 rfl ?_
              first | (rw [hyx]; refine ⟨_, _, rfl, ⟨hCK0, (.slice A L.length cc), ?_⟩, H194.sep.sub (List.Sublist.cons _ (List.Sublist.refl _))⟩; dsimp only; rw [Lane.put_at hpl, Lane.hc_set _ _ _ hi, List.length_set]; rfl) | (rw [Lane.take_no hno]; exact ⟨_, _, rfl, ⟨rfl, _, rfl⟩, H194.sep.sub (List.Sublist.cons _ (List.Sublist.refl _))⟩)
            · skip
              refine plain (y_loadR rfl z_agg3 rfl (rd_row (by repeat (first | exact Mh | apply Mt))) (by simp only [hai, Int.toNat_natCast, Nat.zero_add, Nat.add_zero]; exact (show _ = some (i64 (L.getD i Lane.Held.zero).turn) from Lane.hc_at (c := 2) hi (by omega)))) rfl rfl rfl H186 ?_
              clear H186; intro a195 H195
              refine hfin (H195.sep.sub (by first | exact S0 | exact S1 | repeat (first | exact S1 | exact S0 | apply S2 | apply S3))) ?_
              refine htake 23 rfl (by kernel_rfl) (y_add rfl rfl rfl (by first | exact w64 (by omega) (by omega) | rfl)) rfl rfl rfl (fun _ h => (h.sub (by first | exact S0 | exact S1 | repeat (first | exact S1 | exact S0 | apply S2 | apply S3)))) H195 ?_
              clear H195; intro a196 H196
              refine hgo 14 rfl (by kernel_rfl) ?_
              refine plain (y_loadR rfl z_agg3 rfl (rd_row (by repeat (first | exact Mh | apply Mt))) (by simp only [hai, Int.toNat_natCast, Nat.zero_add, Nat.add_zero]; exact (show _ = some (i64 (L.getD i Lane.Held.zero).who) from Lane.hc_at (c := 1) hi (by omega)))) rfl rfl rfl H196 ?_
              clear H196; intro a197 H197
              refine hfin (H197.sep.sub (by first | exact S0 | exact S1 | repeat (first | exact S1 | exact S0 | apply S2 | apply S3))) ?_
              refine htake 24 rfl (by kernel_rfl) (y_build rfl z_zeroN57 z_places57 rfl (lay_1 (off := 0) (n := 3) rfl q_len_c3 (by decide) q_spl_c3_0_c1 (lay_1 (off := 1) (n := 3) rfl q_len_c3 (by decide) q_spl_c3_1_c1 (lay_1 (off := 2) (n := 3) rfl q_len_c3 (by decide) q_spl_c3_2_c1 lay_n (by rfl)) (by rfl)) (by rfl))) rfl rfl rfl (fun _ h => (h.sub (by first | exact S0 | exact S1 | repeat (first | exact S1 | exact S0 | apply S2 | apply S3)))) H197 ?_
              clear H197; intro a198 H198
              refine hgo 25 rfl (by kernel_rfl) ?_
              refine plain (y_ixR rfl Tryd.underlying58 z_size57 rfl rfl (by omega) (by omega) (rd_row (by repeat (first | exact Mh | apply Mt))) (by rw [Lane.hc_len]; omega)) rfl rfl rfl H198 ?_
              clear H198; intro a199 H199
              refine hfin (H199.sep.sub (by first | exact S0 | exact S1 | repeat (first | exact S1 | exact S0 | apply S2 | apply S3))) ?_
              refine hgo 26 rfl (by kernel_rfl) ?_
              refine st_storeRow rfl z_size57 rfl rfl (agg_cells _) (by simp [i64, Value.oneCell']) rfl (by decide) (by repeat (first | exact Uh | apply Ut)) (by rw [Lane.hc_len]; omega) rfl rfl H199 ?_
              clear H199; intro wx200 H200
              refine hfin (H200.sep.sub (by first | exact S0 | exact S1 | repeat (first | exact S1 | exact S0 | apply S2 | apply S3))) ?_
              refine hdone (by kernel_rfl) ?_
              refine then_n ?_
              refine wp_seq ?_
              refine reg ?_
              refine plain (y_move rfl rfl) rfl rfl rfl H200 ?_
              clear H200; intro a201 H201
              refine plain (y_assign rfl rfl) rfl rfl rfl H201 ?_
              clear H201; intro a202 H202
              refine fin ?_
              refine then_n ?_
              refine wp_ret ?_
              -- return 18
              refine ret1 rfl H202 rfl ?_
              first | (rw [hyx]; refine ⟨_, _, rfl, ⟨hCK0, (.slice A L.length cc), ?_⟩, H202.sep.sub (List.Sublist.cons _ (List.Sublist.refl _))⟩; dsimp only; rw [Lane.put_at hpl, Lane.hc_set _ _ _ hi, List.length_set]; rfl) | (rw [Lane.take_no hno]; exact ⟨_, _, rfl, ⟨rfl, _, rfl⟩, H202.sep.sub (List.Sublist.cons _ (List.Sublist.refl _))⟩)
          · skip
            refine plain (y_loadR rfl z_agg3 rfl (rd_row (by repeat (first | exact Mh | apply Mt))) (by simp only [hai, Int.toNat_natCast, Nat.zero_add, Nat.add_zero]; exact (show _ = some (i64 (L.getD i Lane.Held.zero).turn) from Lane.hc_at (c := 2) hi (by omega)))) rfl rfl rfl H185 ?_
            clear H185; intro a203 H203
            refine hfin (H203.sep.sub (by first | exact S0 | exact S1 | repeat (first | exact S1 | exact S0 | apply S2 | apply S3))) ?_
            refine htake 23 rfl (by kernel_rfl) (y_add rfl rfl rfl (by first | exact w64 (by omega) (by omega) | rfl)) rfl rfl rfl (fun _ h => (h.sub (by first | exact S0 | exact S1 | repeat (first | exact S1 | exact S0 | apply S2 | apply S3)))) H203 ?_
            clear H203; intro a204 H204
            refine hgo 13 rfl (by kernel_rfl) ?_
            refine plain (y_fieldS rfl z_field57_1 rfl (rd_row (by repeat (first | exact Mh | apply Mt))) (by rw [Lane.hc_len]; omega)) rfl rfl rfl H204 ?_
            clear H204; intro a205 H205
            refine hfin (H205.sep.sub (by first | exact S0 | exact S1 | repeat (first | exact S1 | exact S0 | apply S2 | apply S3))) ?_
            refine hgo 14 rfl (by kernel_rfl) ?_
            refine plain (y_loadR rfl z_agg3 rfl (rd_row (by repeat (first | exact Mh | apply Mt))) (by simp only [hai, Int.toNat_natCast, Nat.zero_add, Nat.add_zero]; exact (show _ = some (i64 (L.getD i Lane.Held.zero).who) from Lane.hc_at (c := 1) hi (by omega)))) rfl rfl rfl H205 ?_
            clear H205; intro a206 H206
            refine hfin (H206.sep.sub (by first | exact S0 | exact S1 | repeat (first | exact S1 | exact S0 | apply S2 | apply S3))) ?_
            refine htake 24 rfl (by kernel_rfl) (y_build rfl z_zeroN57 z_places57 rfl (lay_1 (off := 0) (n := 3) rfl q_len_c3 (by decide) q_spl_c3_0_c1 (lay_1 (off := 1) (n := 3) rfl q_len_c3 (by decide) q_spl_c3_1_c1 (lay_1 (off := 2) (n := 3) rfl q_len_c3 (by decide) q_spl_c3_2_c1 lay_n (by rfl)) (by rfl)) (by rfl))) rfl rfl rfl (fun _ h => (h.sub (by first | exact S0 | exact S1 | repeat (first | exact S1 | exact S0 | apply S2 | apply S3)))) H206 ?_
            clear H206; intro a207 H207
            refine hgo 25 rfl (by kernel_rfl) ?_
            refine plain (y_ixR rfl Tryd.underlying58 z_size57 rfl rfl (by omega) (by omega) (rd_row (by repeat (first | exact Mh | apply Mt))) (by rw [Lane.hc_len]; omega)) rfl rfl rfl H207 ?_
            clear H207; intro a208 H208
            refine hfin (H208.sep.sub (by first | exact S0 | exact S1 | repeat (first | exact S1 | exact S0 | apply S2 | apply S3))) ?_
            refine hgo 26 rfl (by kernel_rfl) ?_
            refine st_storeRow rfl z_size57 rfl rfl (agg_cells _) (by simp [i64, Value.oneCell']) rfl (by decide) (by repeat (first | exact Uh | apply Ut)) (by rw [Lane.hc_len]; omega) rfl rfl H208 ?_
            clear H208; intro wx209 H209
            refine hfin (H209.sep.sub (by first | exact S0 | exact S1 | repeat (first | exact S1 | exact S0 | apply S2 | apply S3))) ?_
            refine hdone (by kernel_rfl) ?_
            refine then_n ?_
            refine wp_seq ?_
            refine reg ?_
            refine plain (y_move rfl rfl) rfl rfl rfl H209 ?_
            clear H209; intro a210 H210
            refine plain (y_assign rfl rfl) rfl rfl rfl H210 ?_
            clear H210; intro a211 H211
            refine fin ?_
            refine then_n ?_
            refine wp_ret ?_
            -- return 19
            refine ret1 rfl H211 rfl ?_
            first | (rw [hyx]; refine ⟨_, _, rfl, ⟨hCK0, (.slice A L.length cc), ?_⟩, H211.sep.sub (List.Sublist.cons _ (List.Sublist.refl _))⟩; dsimp only; rw [Lane.put_at hpl, Lane.hc_set _ _ _ hi, List.length_set]; rfl) | (rw [Lane.take_no hno]; exact ⟨_, _, rfl, ⟨rfl, _, rfl⟩, H211.sep.sub (List.Sublist.cons _ (List.Sublist.refl _))⟩)
        · skip
          refine plain (y_loadR rfl z_agg3 rfl (rd_row (by repeat (first | exact Mh | apply Mt))) (by simp only [hai, Int.toNat_natCast, Nat.zero_add, Nat.add_zero]; exact (show _ = some (i64 (L.getD i Lane.Held.zero).turn) from Lane.hc_at (c := 2) hi (by omega)))) rfl rfl rfl H184 ?_
          clear H184; intro a212 H212
          refine hfin (H212.sep.sub (by first | exact S0 | exact S1 | repeat (first | exact S1 | exact S0 | apply S2 | apply S3))) ?_
          refine htake 23 rfl (by kernel_rfl) (y_add rfl rfl rfl (by first | exact w64 (by omega) (by omega) | rfl)) rfl rfl rfl (fun _ h => (h.sub (by first | exact S0 | exact S1 | repeat (first | exact S1 | exact S0 | apply S2 | apply S3)))) H212 ?_
          clear H212; intro a213 H213
          refine hgo 12 rfl (by kernel_rfl) ?_
          refine plain (y_ixR rfl Tryd.underlying58 z_size57 rfl rfl (by omega) (by omega) (rd_row (by repeat (first | exact Mh | apply Mt))) (by rw [Lane.hc_len]; omega)) rfl rfl rfl H213 ?_
          clear H213; intro a214 H214
          refine hfin (H214.sep.sub (by first | exact S0 | exact S1 | repeat (first | exact S1 | exact S0 | apply S2 | apply S3))) ?_
          refine hgo 13 rfl (by kernel_rfl) ?_
          refine plain (y_fieldS rfl z_field57_1 rfl (rd_row (by repeat (first | exact Mh | apply Mt))) (by rw [Lane.hc_len]; omega)) rfl rfl rfl H214 ?_
          clear H214; intro a215 H215
          refine hfin (H215.sep.sub (by first | exact S0 | exact S1 | repeat (first | exact S1 | exact S0 | apply S2 | apply S3))) ?_
          refine hgo 14 rfl (by kernel_rfl) ?_
          refine plain (y_loadR rfl z_agg3 rfl (rd_row (by repeat (first | exact Mh | apply Mt))) (by simp only [hai, Int.toNat_natCast, Nat.zero_add, Nat.add_zero]; exact (show _ = some (i64 (L.getD i Lane.Held.zero).who) from Lane.hc_at (c := 1) hi (by omega)))) rfl rfl rfl H215 ?_
          clear H215; intro a216 H216
          refine hfin (H216.sep.sub (by first | exact S0 | exact S1 | repeat (first | exact S1 | exact S0 | apply S2 | apply S3))) ?_
          refine htake 24 rfl (by kernel_rfl) (y_build rfl z_zeroN57 z_places57 rfl (lay_1 (off := 0) (n := 3) rfl q_len_c3 (by decide) q_spl_c3_0_c1 (lay_1 (off := 1) (n := 3) rfl q_len_c3 (by decide) q_spl_c3_1_c1 (lay_1 (off := 2) (n := 3) rfl q_len_c3 (by decide) q_spl_c3_2_c1 lay_n (by rfl)) (by rfl)) (by rfl))) rfl rfl rfl (fun _ h => (h.sub (by first | exact S0 | exact S1 | repeat (first | exact S1 | exact S0 | apply S2 | apply S3)))) H216 ?_
          clear H216; intro a217 H217
          refine hgo 25 rfl (by kernel_rfl) ?_
          refine plain (y_ixR rfl Tryd.underlying58 z_size57 rfl rfl (by omega) (by omega) (rd_row (by repeat (first | exact Mh | apply Mt))) (by rw [Lane.hc_len]; omega)) rfl rfl rfl H217 ?_
          clear H217; intro a218 H218
          refine hfin (H218.sep.sub (by first | exact S0 | exact S1 | repeat (first | exact S1 | exact S0 | apply S2 | apply S3))) ?_
          refine hgo 26 rfl (by kernel_rfl) ?_
          refine st_storeRow rfl z_size57 rfl rfl (agg_cells _) (by simp [i64, Value.oneCell']) rfl (by decide) (by repeat (first | exact Uh | apply Ut)) (by rw [Lane.hc_len]; omega) rfl rfl H218 ?_
          clear H218; intro wx219 H219
          refine hfin (H219.sep.sub (by first | exact S0 | exact S1 | repeat (first | exact S1 | exact S0 | apply S2 | apply S3))) ?_
          refine hdone (by kernel_rfl) ?_
          refine then_n ?_
          refine wp_seq ?_
          refine reg ?_
          refine plain (y_move rfl rfl) rfl rfl rfl H219 ?_
          clear H219; intro a220 H220
          refine plain (y_assign rfl rfl) rfl rfl rfl H220 ?_
          clear H220; intro a221 H221
          refine fin ?_
          refine then_n ?_
          refine wp_ret ?_
          -- return 20
          refine ret1 rfl H221 rfl ?_
          first | (rw [hyx]; refine ⟨_, _, rfl, ⟨hCK0, (.slice A L.length cc), ?_⟩, H221.sep.sub (List.Sublist.cons _ (List.Sublist.refl _))⟩; dsimp only; rw [Lane.put_at hpl, Lane.hc_set _ _ _ hi, List.length_set]; rfl) | (rw [Lane.take_no hno]; exact ⟨_, _, rfl, ⟨rfl, _, rfl⟩, H221.sep.sub (List.Sublist.cons _ (List.Sublist.refl _))⟩)
  · skip
    try simp only [decide_eq_true_eq, decide_eq_false_iff_not, Bool.not_eq_true', Bool.not_eq_false', Bool.and_eq_true, Bool.not_eq_true, Bool.not_eq_false] at hc10
    have hno := hc10
    refine wp_skip ?_
    refine then_n ?_
    refine wp_seq ?_
    refine reg ?_
    refine plain (y_move rfl rfl) rfl rfl rfl H9 ?_
    clear H9; intro a222 H222
    refine plain (y_assign rfl rfl) rfl rfl rfl H222 ?_
    clear H222; intro a223 H223
    refine fin ?_
    refine then_n ?_
    refine wp_ret ?_
    -- return 21
    refine ret1 rfl H223 rfl ?_
    first | (rw [hyx]; refine ⟨_, _, rfl, ⟨hCK0, (.slice A L.length cc), ?_⟩, H223.sep.sub (List.Sublist.cons _ (List.Sublist.refl _))⟩; dsimp only; rw [Lane.put_at hpl, Lane.hc_set _ _ _ hi, List.length_set]; rfl) | (rw [Lane.take_no hno]; exact ⟨_, _, rfl, ⟨rfl, _, rfl⟩, H223.sep.sub (List.Sublist.cons _ (List.Sublist.refl _))⟩)

end Go.Proofs.YtaeahloenahelaaDoor.A_X3

set_option linter.unusedVariables false
set_option linter.unusedSimpArgs false
namespace Go.Proofs.YtaeahloenahelaaDoor.A_Ltx
open Go.Sx Go.RowKit Go.Proofs.YtaeahloenahelaaDoor.A_X1 Go.Proofs.YtaeahloenahelaaDoor.A_Tx Go.Proofs.YtaeahloenahelaaDoor.A_RBody Go.Proofs.YtaeahloenahelaaDoor.A_RHand Go.Proofs.YtaeahloenahelaaDoor.A_Tag

theorem z_zeroN50 : zeroL Tryd.prog 50 = some ((.int .i64 0 :: (.int .i64 0 :: (.int .i64 0 :: (.int .i64 0 :: (.string ⟨#[]⟩ :: (.bool false :: (.int .i64 0 :: (.int .i64 0 :: ((List.replicate 32 (0 : UInt8)).map u8 ++ (List.replicate 32 (0 : UInt8)).map u8)))))))))) := by kernel_rfl
theorem z_field52_7 : fieldB Tryd.prog 52 7 = some 7 := by kernel_rfl
theorem z_agg50 : aggB Tryd.prog 50 = some true := by kernel_rfl
theorem z_size50 : sizeB Tryd.prog 50 = some 72 := by kernel_rfl
theorem q_ld_c15b32b32_7_72 {a0 a1 a2 a3 a4 a5 a6 a7 a8 a9 a10 a11 a12 a13 a14 : Value} {t15 t16 : List UInt8} (h15 : t15.length = 32) (h16 : t16.length = 32) : ((a0 :: a1 :: a2 :: a3 :: a4 :: a5 :: a6 :: a7 :: a8 :: a9 :: a10 :: a11 :: a12 :: a13 :: a14 :: (t15.map u8 ++ (t16.map u8))).drop 7).take 72 = a7 :: a8 :: a9 :: a10 :: a11 :: a12 :: a13 :: a14 :: (t15.map u8 ++ (t16.map u8)) := (ld_c (o := 6) (ld_c (o := 5) (ld_c (o := 4) (ld_c (o := 3) (ld_c (o := 2) (ld_c (o := 1) (ld_c (o := 0) (ld_a (len_c (n := 71) (len_c (n := 70) (len_c (n := 69) (len_c (n := 68) (len_c (n := 67) (len_c (n := 66) (len_c (n := 65) (len_c (n := 64) (len_b (k := 32) (n := 32) h15 (len_e (k := 32) h16))))))))))))))))))
theorem q_len_c8b32b32 {a0 a1 a2 a3 a4 a5 a6 a7 : Value} {t8 t9 : List UInt8} (h8 : t8.length = 32) (h9 : t9.length = 32) : (a0 :: a1 :: a2 :: a3 :: a4 :: a5 :: a6 :: a7 :: (t8.map u8 ++ (t9.map u8))).length = 72 := (len_c (n := 71) (len_c (n := 70) (len_c (n := 69) (len_c (n := 68) (len_c (n := 67) (len_c (n := 66) (len_c (n := 65) (len_c (n := 64) (len_b (k := 32) (n := 32) h8 (len_e (k := 32) h9))))))))))
theorem q_one_c8b32b32 {a0 a1 a2 a3 a4 a5 a6 a7 : Value} {t8 t9 : List UInt8} (o0 : a0.oneCell' = true) (o1 : a1.oneCell' = true) (o2 : a2.oneCell' = true) (o3 : a3.oneCell' = true) (o4 : a4.oneCell' = true) (o5 : a5.oneCell' = true) (o6 : a6.oneCell' = true) (o7 : a7.oneCell' = true) : (a0 :: a1 :: a2 :: a3 :: a4 :: a5 :: a6 :: a7 :: (t8.map u8 ++ (t9.map u8))).all (·.oneCell') = true := (one_c o0 (one_c o1 (one_c o2 (one_c o3 (one_c o4 (one_c o5 (one_c o6 (one_c o7 (one_b (one_u8 _))))))))))
theorem q_spl_c8b32b32_0_c8b32b32 {a0 a1 a2 a3 a4 a5 a6 a7 : Value} {t8 t9 : List UInt8} {b0 b1 b2 b3 b4 b5 b6 b7 : Value} {s8 s9 : List UInt8} (h8 : t8.length = 32) (h9 : t9.length = 32) (g8 : s8.length = 32) (g9 : s9.length = 32) : spl (a0 :: a1 :: a2 :: a3 :: a4 :: a5 :: a6 :: a7 :: (t8.map u8 ++ (t9.map u8))) 0 (b0 :: b1 :: b2 :: b3 :: b4 :: b5 :: b6 :: b7 :: (s8.map u8 ++ (s9.map u8))) = b0 :: b1 :: b2 :: b3 :: b4 :: b5 :: b6 :: b7 :: (s8.map u8 ++ (s9.map u8)) := (spl_a (z := 72) (len_c (n := 71) (len_c (n := 70) (len_c (n := 69) (len_c (n := 68) (len_c (n := 67) (len_c (n := 66) (len_c (n := 65) (len_c (n := 64) (len_b (k := 32) (n := 32) h8 (len_e (k := 32) h9)))))))))) (len_c (n := 71) (len_c (n := 70) (len_c (n := 69) (len_c (n := 68) (len_c (n := 67) (len_c (n := 66) (len_c (n := 65) (len_c (n := 64) (len_b (k := 32) (n := 32) g8 (len_e (k := 32) g9)))))))))))
theorem z_field52_6 : fieldB Tryd.prog 52 6 = some 6 := by kernel_rfl
theorem z_agg4 : aggB Tryd.prog 4 = some false := by kernel_rfl
theorem q_ix_c15b32b32_6 {a0 a1 a2 a3 a4 a5 a6 a7 a8 a9 a10 a11 a12 a13 a14 : Value} {t15 t16 : List UInt8} : (a0 :: a1 :: a2 :: a3 :: a4 :: a5 :: a6 :: a7 :: a8 :: a9 :: a10 :: a11 :: a12 :: a13 :: a14 :: (t15.map u8 ++ (t16.map u8)))[6]? = some a6 := (ix_c (o := 5) (ix_c (o := 4) (ix_c (o := 3) (ix_c (o := 2) (ix_c (o := 1) (ix_c (o := 0) ix_0))))))
theorem z_field50_5 : fieldB Tryd.prog 50 5 = some 5 := by kernel_rfl
theorem q_ix_c8b32b32_5 {a0 a1 a2 a3 a4 a5 a6 a7 : Value} {t8 t9 : List UInt8} : (a0 :: a1 :: a2 :: a3 :: a4 :: a5 :: a6 :: a7 :: (t8.map u8 ++ (t9.map u8)))[5]? = some a5 := (ix_c (o := 4) (ix_c (o := 3) (ix_c (o := 2) (ix_c (o := 1) (ix_c (o := 0) ix_0)))))
theorem z_field52_4 : fieldB Tryd.prog 52 4 = some 4 := by kernel_rfl
theorem z_agg3 : aggB Tryd.prog 3 = some false := by kernel_rfl
theorem q_ix_c15b32b32_4 {a0 a1 a2 a3 a4 a5 a6 a7 a8 a9 a10 a11 a12 a13 a14 : Value} {t15 t16 : List UInt8} : (a0 :: a1 :: a2 :: a3 :: a4 :: a5 :: a6 :: a7 :: a8 :: a9 :: a10 :: a11 :: a12 :: a13 :: a14 :: (t15.map u8 ++ (t16.map u8)))[4]? = some a4 := (ix_c (o := 3) (ix_c (o := 2) (ix_c (o := 1) (ix_c (o := 0) ix_0))))
theorem z_call22 : callB Tryd.prog 22 = true := by kernel_rfl
theorem z_field50_6 : fieldB Tryd.prog 50 6 = some 6 := by kernel_rfl
theorem z_size3 : sizeB Tryd.prog 3 = some 1 := by kernel_rfl
theorem q_set_c8b32b32_6 {a0 a1 a2 a3 a4 a5 a6 a7 : Value} {t8 t9 : List UInt8} {v : Value} : (a0 :: a1 :: a2 :: a3 :: a4 :: a5 :: a6 :: a7 :: (t8.map u8 ++ (t9.map u8))).set 6 v = a0 :: a1 :: a2 :: a3 :: a4 :: a5 :: v :: a7 :: (t8.map u8 ++ (t9.map u8)) := (set_c (o := 5) (set_c (o := 4) (set_c (o := 3) (set_c (o := 2) (set_c (o := 1) (set_c (o := 0) set_0))))))
theorem z_field50_7 : fieldB Tryd.prog 50 7 = some 7 := by kernel_rfl
theorem q_set_c8b32b32_7 {a0 a1 a2 a3 a4 a5 a6 a7 : Value} {t8 t9 : List UInt8} {v : Value} : (a0 :: a1 :: a2 :: a3 :: a4 :: a5 :: a6 :: a7 :: (t8.map u8 ++ (t9.map u8))).set 7 v = a0 :: a1 :: a2 :: a3 :: a4 :: a5 :: a6 :: v :: (t8.map u8 ++ (t9.map u8)) := (set_c (o := 6) (set_c (o := 5) (set_c (o := 4) (set_c (o := 3) (set_c (o := 2) (set_c (o := 1) (set_c (o := 0) set_0)))))))
theorem q_ix_c8b32b32_6 {a0 a1 a2 a3 a4 a5 a6 a7 : Value} {t8 t9 : List UInt8} : (a0 :: a1 :: a2 :: a3 :: a4 :: a5 :: a6 :: a7 :: (t8.map u8 ++ (t9.map u8)))[6]? = some a6 := (ix_c (o := 5) (ix_c (o := 4) (ix_c (o := 3) (ix_c (o := 2) (ix_c (o := 1) (ix_c (o := 0) ix_0))))))
theorem z_call24 : callB Tryd.prog 24 = true := by kernel_rfl
theorem z_field60_1 : fieldB Tryd.prog 60 1 = some 1 := by kernel_rfl
theorem z_agg58 : aggB Tryd.prog 58 = some false := by kernel_rfl
theorem z_size57 : sizeB Tryd.prog 57 = some 3 := by kernel_rfl
theorem z_field57_2 : fieldB Tryd.prog 57 2 = some 2 := by kernel_rfl
theorem z_field52_5 : fieldB Tryd.prog 52 5 = some 5 := by kernel_rfl
theorem q_ix_c15b32b32_5 {a0 a1 a2 a3 a4 a5 a6 a7 a8 a9 a10 a11 a12 a13 a14 : Value} {t15 t16 : List UInt8} : (a0 :: a1 :: a2 :: a3 :: a4 :: a5 :: a6 :: a7 :: a8 :: a9 :: a10 :: a11 :: a12 :: a13 :: a14 :: (t15.map u8 ++ (t16.map u8)))[5]? = some a5 := (ix_c (o := 4) (ix_c (o := 3) (ix_c (o := 2) (ix_c (o := 1) (ix_c (o := 0) ix_0)))))
theorem q_ld_c8b32b32_0_72 {a0 a1 a2 a3 a4 a5 a6 a7 : Value} {t8 t9 : List UInt8} (h8 : t8.length = 32) (h9 : t9.length = 32) : ((a0 :: a1 :: a2 :: a3 :: a4 :: a5 :: a6 :: a7 :: (t8.map u8 ++ (t9.map u8))).drop 0).take 72 = a0 :: a1 :: a2 :: a3 :: a4 :: a5 :: a6 :: a7 :: (t8.map u8 ++ (t9.map u8)) := (ld_a (len_c (n := 71) (len_c (n := 70) (len_c (n := 69) (len_c (n := 68) (len_c (n := 67) (len_c (n := 66) (len_c (n := 65) (len_c (n := 64) (len_b (k := 32) (n := 32) h8 (len_e (k := 32) h9)))))))))))
theorem z_call52 : callB Tryd.prog 52 = true := by kernel_rfl
theorem z_zeroN60 : zeroL Tryd.prog 60 = some ((.int .i64 0 :: (.slice none 0 0 :: []))) := by kernel_rfl
theorem z_places60 : placesB Tryd.prog 60 = some [(0, 1), (1, 1)] := by kernel_rfl
theorem q_len_c2 {a0 a1 : Value} : (a0 :: a1 :: []).length = 2 := (len_c (n := 1) (len_c (n := 0) len_n))
theorem q_spl_c2_0_c1 {a0 a1 : Value} {b0 : Value} : spl (a0 :: a1 :: []) 0 (b0 :: []) = b0 :: a1 :: [] := spl_0

set_option maxRecDepth 100000 in
set_option maxHeartbeats 4000000 in
theorem ltx (len : Int) (L : List Lane.Held) (hl : L.length ≤ 1000000) (hg : Lane.Good ⟨len, L⟩) (c : Lane.Act) (wc : Lane.Act.Wf c) (x : Nat) (v : Value) {w : World} (hx : (It.blk x 60 [i64 len, v]).P w) (hr : (It.row 57 3 v L.length (Lane.hc L)).P w)  : Calls Tryd.prog 26 #[.pointer (some ⟨x, 0, none⟩), .agg (Lane.Act.cells c).toArray] w (Gives (.agg (Txs.Tx.cells (Lane.txOf ⟨len, L⟩ c)).toArray) [] w) := by
  obtain ⟨A, cc, rfl, hR, hmx⟩ := Row.rd hr
  have whd := wc.tx.hand
  have wtg := wc.tx.tag
  have wf0 := Lane.tx0_wf hg wc
  have wh0 := wf0.hand
  have wt0 := wf0.tag
  have wf1 := Txs.hand_wf wf0 c.hand
  have wh1 := wf1.hand
  have wt1 := wf1.tag
  have lz32 : (List.replicate 32 (0 : UInt8)).length = 32 := List.length_replicate
  have lz0 := wc.tx.hand
  have lz1 := wc.tx.tag
  refine enterL (args := [.pointer (some ⟨x, 0, none⟩), .agg (Lane.Act.cells c).toArray]) Tryd.func26 rfl rfl (l := []) (Sep.refl _) ?_
  intro a0 H0
  refine wp_seq ?_
  refine reg ?_
  refine st_box rfl rfl (agg_cells _) rfl rfl rfl H0 ?_
  clear H0; intro b1 a1 wx1 H1
  refine st_alloc rfl z_zeroN50 rfl rfl rfl H1 ?_
  clear H1; intro b2 a2 wx2 H2
  refine fin ?_
  refine then_n ?_
  refine wp_seq ?_
  refine reg ?_
  refine plain (y_fieldB rfl z_field52_7 rfl (by first | (simp only [Nat.zero_add, Nat.add_zero, Nat.reduceAdd]; rfl) | rfl)) rfl rfl rfl H2 ?_
  clear H2; intro a3 H3
  refine plain (y_loadAB rfl z_agg50 z_size50 rfl (by repeat (first | exact Mh | apply Mt)) (q_ld_c15b32b32_7_72 (by assumption) (by assumption)) (q_len_c8b32b32 (by assumption) (by assumption))) rfl rfl rfl H3 ?_
  clear H3; intro a4 H4
  refine st_alloc rfl z_zeroN50 rfl rfl rfl H4 ?_
  clear H4; intro b5 a5 wx5 H5
  refine st_storeN rfl z_size50 rfl rfl (agg_cells _) (by repeat (first | exact Uh | apply Ut)) (q_one_c8b32b32 rfl rfl rfl rfl rfl rfl rfl rfl) (q_len_c8b32b32 (by assumption) (by assumption)) (q_len_c8b32b32 (by assumption) (by assumption)) (q_spl_c8b32b32_0_c8b32b32 (by assumption) (by assumption) (by assumption) (by assumption)) (by decide) rfl rfl H5 ?_
  clear H5; intro wx6 H6
  refine fin ?_
  refine then_n ?_
  refine wp_seq ?_
  refine wp_seq ?_
  refine reg ?_
  refine plain (y_fieldB rfl z_field52_6 rfl (by first | (simp only [Nat.zero_add, Nat.add_zero, Nat.reduceAdd]; rfl) | rfl)) rfl rfl rfl H6 ?_
  clear H6; intro a7 H7
  refine plain (y_loadB rfl z_agg4 rfl (by repeat (first | exact Mh | apply Mt)) q_ix_c15b32b32_6) rfl rfl rfl H7 ?_
  clear H7; intro a8 H8
  refine plain (y_move rfl rfl) rfl rfl rfl H8 ?_
  clear H8; intro a9 H9
  refine Sx.part (d := 13) H9 rfl (fun hg10 => ?_) (fun hg10 => ?_)
  · first
    | fail
    | skip
      clear H9; intro H11
      try simp only [decide_eq_true_eq, decide_eq_false_iff_not, Bool.not_eq_true', Bool.not_eq_false', Bool.and_eq_true, Bool.not_eq_true, Bool.not_eq_false] at hg10
      have ht1 : c.turn = true := hg10
      refine plain (y_fieldB rfl z_field50_5 rfl (by first | (simp only [Nat.zero_add, Nat.add_zero, Nat.reduceAdd]; rfl) | rfl)) rfl rfl rfl H11 ?_
      clear H11; intro a12 H12
      refine plain (y_loadB rfl z_agg4 rfl (by repeat (first | exact Mh | apply Mt)) q_ix_c8b32b32_5) rfl rfl rfl H12 ?_
      clear H12; intro a13 H13
      refine plain (y_pick_t rfl rfl rfl) rfl rfl rfl H13 ?_
      clear H13; intro a14 H14
      refine fin ?_
      refine then_n ?_
      refine wp_cut (fun aC wC => St Tryd.f26.ntmps [] w ([(0, .pointer (some ⟨x, 0, none⟩)), (3, .pointer (some ⟨b1, 0, none⟩)), (4, .pointer (some ⟨b2, 0, none⟩)), (5, .pointer (some ⟨b5, 0, none⟩))]) ([It.blk b5 50 (Txs.Tx.cells (Lane.tx0 ⟨len, L⟩ c)), It.blk b2 50 (Txs.Tx.cells Txs.Tx.zero), It.blk b1 52 (Lane.Act.cells c)]) aC wC) ?_ ?_
      · skip
        refine cnd H14 rfl (fun hc15 => ?_) (fun hc15 => ?_) -- cond 1
        · skip
          try simp only [decide_eq_true_eq, decide_eq_false_iff_not, Bool.not_eq_true', Bool.not_eq_false', Bool.and_eq_true, Bool.not_eq_true, Bool.not_eq_false] at hc15
          have hl1 : c.tx.lane = true := hc15
          refine wp_seq ?_
          refine reg ?_
          refine plain (y_move rfl rfl) rfl rfl rfl H14 ?_
          clear H14; intro a16 H16
          refine plain (y_fieldB rfl z_field52_4 rfl (by first | (simp only [Nat.zero_add, Nat.add_zero, Nat.reduceAdd]; rfl) | rfl)) rfl rfl rfl H16 ?_
          clear H16; intro a17 H17
          refine plain (y_loadB rfl z_agg3 rfl (by repeat (first | exact Mh | apply Mt)) q_ix_c15b32b32_4) rfl rfl rfl H17 ?_
          clear H17; intro a18 H18
          refine st_callg rfl z_call22 rfl rfl rfl rfl H18 (xround len c.now hg.len.1 wc.now x (.slice A L.length cc) (H18.sep.keep hx)) ?_
          clear H18; intro a19 wx19 H19
          refine plain (y_fieldB rfl z_field50_6 rfl (by first | (simp only [Nat.zero_add, Nat.add_zero, Nat.reduceAdd]; rfl) | rfl)) rfl rfl rfl H19 ?_
          clear H19; intro a20 H20
          refine st_store1N rfl z_size3 rfl rfl rfl (by repeat (first | exact Uh | apply Ut)) (q_len_c8b32b32 (by assumption) (by assumption)) q_set_c8b32b32_6 (by decide) rfl rfl H20 ?_
          clear H20; intro wx21 H21
          refine fin ?_
          refine then_n ?_
          refine wp_seq ?_
          refine reg ?_
          refine plain (y_fieldB rfl z_field50_7 rfl (by first | (simp only [Nat.zero_add, Nat.add_zero, Nat.reduceAdd]; rfl) | rfl)) rfl rfl rfl H21 ?_
          clear H21; intro a22 H22
          refine st_store1N rfl z_size3 rfl rfl rfl (by repeat (first | exact Uh | apply Ut)) (q_len_c8b32b32 (by assumption) (by assumption)) q_set_c8b32b32_7 (by decide) rfl rfl H22 ?_
          clear H22; intro wx23 H23
          refine fin ?_
          refine then_n ?_
          refine wp_seq ?_
          refine reg ?_
          refine plain (y_move rfl rfl) rfl rfl rfl H23 ?_
          clear H23; intro a24 H24
          refine plain (y_fieldB rfl z_field50_6 rfl (by first | (simp only [Nat.zero_add, Nat.add_zero, Nat.reduceAdd]; rfl) | rfl)) rfl rfl rfl H24 ?_
          clear H24; intro a25 H25
          refine plain (y_loadB rfl z_agg3 rfl (by repeat (first | exact Mh | apply Mt)) q_ix_c8b32b32_6) rfl rfl rfl H25 ?_
          clear H25; intro a26 H26
          refine st_callg rfl z_call24 rfl rfl rfl rfl H26 (xat len L (Lane.roundOf len c.now) x (.slice A L.length cc) hl (H26.sep.keep hx) (H26.sep.keep hr)) ?_
          clear H26; intro a27 wx27 H27
          refine plain (y_assign rfl rfl) rfl rfl rfl H27 ?_
          clear H27; intro a28 H28
          refine fin ?_
          refine then_n ?_
          refine wp_seq ?_
          refine reg ?_
          refine plain (y_move rfl rfl) rfl rfl rfl H28 ?_
          clear H28; intro a29 H29
          refine plain (y_geq rfl rfl rfl) rfl rfl rfl H29 ?_
          clear H29; intro a30 H30
          refine fin ?_
          refine then_n ?_
          refine cnd H30 rfl (fun hc31 => ?_) (fun hc31 => ?_) -- cond 2
          · skip
            try simp only [decide_eq_true_eq, decide_eq_false_iff_not, Bool.not_eq_true', Bool.not_eq_false', Bool.and_eq_true, Bool.not_eq_true, Bool.not_eq_false] at hc31
            obtain ⟨i, hi, hai, hpl, hlk⟩ := Lane.at_look (L := L) (r := Lane.roundOf len c.now) (by omega)
            have hwo := Lane.at_who hlk
            rw [hai] at H30
            refine reg ?_
            refine plain (y_move rfl rfl) rfl rfl rfl H30 ?_
            clear H30; intro a32 H32
            refine plain (y_nilCheck rfl rfl) rfl rfl rfl H32 ?_
            clear H32; intro a33 H33
            refine plain (y_fieldB rfl z_field60_1 rfl (by first | (simp only [Nat.zero_add, Nat.add_zero, Nat.reduceAdd]; rfl) | rfl)) rfl rfl rfl H33 ?_
            clear H33; intro a34 H34
            refine plain (y_loadO rfl z_agg58 rfl (blk_cell hx (by rfl)) (by simp)) rfl rfl rfl H34 ?_
            clear H34; intro a35 H35
            refine plain (y_move rfl rfl) rfl rfl rfl H35 ?_
            clear H35; intro a36 H36
            refine plain (y_ixR rfl Tryd.underlying58 z_size57 rfl rfl (by omega) (by omega) (rd_old hR (by simp)) (by rw [Lane.hc_len]; omega)) rfl rfl rfl H36 ?_
            clear H36; intro a37 H37
            refine plain (y_fieldS rfl z_field57_2 rfl (rd_old hR (by simp)) (by rw [Lane.hc_len]; omega)) rfl rfl rfl H37 ?_
            clear H37; intro a38 H38
            refine plain (y_loadR rfl z_agg3 rfl (rd_old hR (by simp)) (by simp only [hai, Int.toNat_natCast, Nat.zero_add, Nat.add_zero]; exact (show _ = some (i64 (L.getD i Lane.Held.zero).turn) from Lane.hc_at (c := 2) hi (by omega)))) rfl rfl rfl H38 ?_
            clear H38; intro a39 H39
            refine plain (y_fieldB rfl z_field50_7 rfl (by first | (simp only [Nat.zero_add, Nat.add_zero, Nat.reduceAdd]; rfl) | rfl)) rfl rfl rfl H39 ?_
            clear H39; intro a40 H40
            refine st_store1N rfl z_size3 rfl rfl rfl (by repeat (first | exact Uh | apply Ut)) (q_len_c8b32b32 (by assumption) (by assumption)) q_set_c8b32b32_7 (by decide) rfl rfl H40 ?_
            clear H40; intro wx41 H41
            refine fin ?_
            refine cut_n ?_
            first | (exact H41.weak ⟨rfl, rfl, rfl, rfl, trivial⟩ (ib (by rw [Lane.tx0_yes ht1 hl1, hwo.2]; rfl))) | (exact H41.weak ⟨rfl, rfl, rfl, rfl, trivial⟩ (ib (by rw [Lane.tx0_yes ht1 hl1, ha1.2]; rfl))) | (exact H41.weak ⟨rfl, rfl, rfl, rfl, trivial⟩ (ib (by rw [Lane.tx0_not hl2]; rfl))) | (exact H41.weak ⟨rfl, rfl, rfl, rfl, trivial⟩ (ib (by rw [Lane.tx0_no ht2]; rfl)))
          · skip
            try simp only [decide_eq_true_eq, decide_eq_false_iff_not, Bool.not_eq_true', Bool.not_eq_false', Bool.and_eq_true, Bool.not_eq_true, Bool.not_eq_false] at hc31
            have ha1 := Lane.who_at (L := L) (r := Lane.roundOf len c.now) (by omega)
            refine wp_skip ?_
            refine cut_n ?_
            first | (exact H30.weak ⟨rfl, rfl, rfl, rfl, trivial⟩ (ib (by rw [Lane.tx0_yes ht1 hl1, hwo.2]; rfl))) | (exact H30.weak ⟨rfl, rfl, rfl, rfl, trivial⟩ (ib (by rw [Lane.tx0_yes ht1 hl1, ha1.2]; rfl))) | (exact H30.weak ⟨rfl, rfl, rfl, rfl, trivial⟩ (ib (by rw [Lane.tx0_not hl2]; rfl))) | (exact H30.weak ⟨rfl, rfl, rfl, rfl, trivial⟩ (ib (by rw [Lane.tx0_no ht2]; rfl)))
        · skip
          try simp only [decide_eq_true_eq, decide_eq_false_iff_not, Bool.not_eq_true', Bool.not_eq_false', Bool.and_eq_true, Bool.not_eq_true, Bool.not_eq_false] at hc15
          have hl2 : c.tx.lane = false := hc15
          refine wp_skip ?_
          refine cut_n ?_
          first | (exact H14.weak ⟨rfl, rfl, rfl, rfl, trivial⟩ (ib (by rw [Lane.tx0_yes ht1 hl1, hwo.2]; rfl))) | (exact H14.weak ⟨rfl, rfl, rfl, rfl, trivial⟩ (ib (by rw [Lane.tx0_yes ht1 hl1, ha1.2]; rfl))) | (exact H14.weak ⟨rfl, rfl, rfl, rfl, trivial⟩ (ib (by rw [Lane.tx0_not hl2]; rfl))) | (exact H14.weak ⟨rfl, rfl, rfl, rfl, trivial⟩ (ib (by rw [Lane.tx0_no ht2]; rfl)))
      · clear H14; intro a42 wx42 hI42
        have H42 := hI42
        refine then_n ?_
        refine wp_seq ?_
        refine wp_seq ?_
        refine reg ?_
        refine plain (y_fieldB rfl z_field52_5 rfl (by first | (simp only [Nat.zero_add, Nat.add_zero, Nat.reduceAdd]; rfl) | rfl)) rfl rfl rfl H42 ?_
        clear H42; intro a43 H43
        refine plain (y_loadB rfl z_agg3 rfl (by repeat (first | exact Mh | apply Mt)) q_ix_c15b32b32_5) rfl rfl rfl H43 ?_
        clear H43; intro a44 H44
        refine plain (y_geq rfl rfl rfl) rfl rfl rfl H44 ?_
        clear H44; intro a45 H45
        refine fin ?_
        refine then_n ?_
        refine cnd H45 rfl (fun hc46 => ?_) (fun hc46 => ?_) -- cond 3
        · skip
          try simp only [decide_eq_true_eq, decide_eq_false_iff_not, Bool.not_eq_true', Bool.not_eq_false', Bool.and_eq_true, Bool.not_eq_true, Bool.not_eq_false] at hc46
          have hh1 : ¬ c.hand < 0 := by omega
          refine wp_seq ?_
          refine reg ?_
          refine plain (y_loadAB rfl z_agg50 z_size50 rfl (by repeat (first | exact Mh | apply Mt)) (q_ld_c8b32b32_0_72 (by assumption) (by assumption)) (q_len_c8b32b32 (by assumption) (by assumption))) rfl rfl rfl H45 ?_
          clear H45; intro a47 H47
          refine plain (y_fieldB rfl z_field52_5 rfl (by first | (simp only [Nat.zero_add, Nat.add_zero, Nat.reduceAdd]; rfl) | rfl)) rfl rfl rfl H47 ?_
          clear H47; intro a48 H48
          refine plain (y_loadB rfl z_agg3 rfl (by repeat (first | exact Mh | apply Mt)) q_ix_c15b32b32_5) rfl rfl rfl H48 ?_
          clear H48; intro a49 H49
          refine st_callg rfl z_call52 rfl rfl rfl rfl H49 (rhand (Lane.tx0 ⟨len, L⟩ c) wf0 c.hand wc.hand _) ?_
          clear H49; intro a50 wx50 H50
          refine plain (y_move rfl rfl) rfl rfl rfl H50 ?_
          clear H50; intro a51 H51
          refine plain (y_extract rfl rfl rfl) rfl rfl rfl H51 ?_
          clear H51; intro a52 H52
          refine plain (y_extract rfl rfl rfl) rfl rfl rfl H52 ?_
          clear H52; intro a53 H53
          refine st_alloc rfl z_zeroN50 rfl rfl rfl H53 ?_
          clear H53; intro b54 a54 wx54 H54
          refine st_storeN rfl z_size50 rfl rfl (agg_cells _) (by repeat (first | exact Uh | apply Ut)) (q_one_c8b32b32 rfl rfl rfl rfl rfl rfl rfl rfl) (q_len_c8b32b32 (by assumption) (by assumption)) (q_len_c8b32b32 (by assumption) (by assumption)) (q_spl_c8b32b32_0_c8b32b32 (by assumption) (by assumption) (by assumption) (by assumption)) (by decide) rfl rfl H54 ?_
          clear H54; intro wx55 H55
          refine plain (y_assign rfl rfl) rfl rfl rfl H55 ?_
          clear H55; intro a56 H56
          refine fin ?_
          refine then_n ?_
          refine wp_seq ?_
          refine reg ?_
          refine plain (y_move rfl rfl) rfl rfl rfl H56 ?_
          clear H56; intro a57 H57
          refine plain (y_eql rfl rfl rfl) rfl rfl rfl H57 ?_
          clear H57; intro a58 H58
          refine fin ?_
          refine then_n ?_
          refine cnd H58 rfl (fun hc59 => ?_) (fun hc59 => ?_) -- cond 4
          · skip
            try simp only [decide_eq_true_eq, decide_eq_false_iff_not, Bool.not_eq_true', Bool.not_eq_false', Bool.and_eq_true, Bool.not_eq_true, Bool.not_eq_false] at hc59
            have he1 := hc59
            refine reg ?_
            refine plain (y_loadAB rfl z_agg50 z_size50 rfl (by repeat (first | exact Mh | apply Mt)) (q_ld_c8b32b32_0_72 (by assumption) (by assumption)) (q_len_c8b32b32 (by assumption) (by assumption))) rfl rfl rfl H58 ?_
            clear H58; intro a60 H60
            refine st_storeN rfl z_size50 rfl rfl (agg_cells _) (by repeat (first | exact Uh | apply Ut)) (q_one_c8b32b32 rfl rfl rfl rfl rfl rfl rfl rfl) (q_len_c8b32b32 (by assumption) (by assumption)) (q_len_c8b32b32 (by assumption) (by assumption)) (q_spl_c8b32b32_0_c8b32b32 (by assumption) (by assumption) (by assumption) (by assumption)) (by decide) rfl rfl H60 ?_
            clear H60; intro wx61 H61
            refine fin ?_
            refine then_n ?_
            refine wp_seq ?_
            refine reg ?_
            refine plain (y_loadAB rfl z_agg50 z_size50 rfl (by repeat (first | exact Mh | apply Mt)) (q_ld_c8b32b32_0_72 (by assumption) (by assumption)) (q_len_c8b32b32 (by assumption) (by assumption))) rfl rfl rfl H61 ?_
            clear H61; intro a62 H62
            refine st_storeN rfl z_size50 rfl rfl (agg_cells _) (by repeat (first | exact Uh | apply Ut)) (q_one_c8b32b32 rfl rfl rfl rfl rfl rfl rfl rfl) (q_len_c8b32b32 (by assumption) (by assumption)) (q_len_c8b32b32 (by assumption) (by assumption)) (q_spl_c8b32b32_0_c8b32b32 (by assumption) (by assumption) (by assumption) (by assumption)) (by decide) rfl rfl H62 ?_
            clear H62; intro wx63 H63
            refine fin ?_
            refine then_n ?_
            refine wp_ret ?_
            -- return 1
            refine retc rfl H63 rfl z_agg50 z_size50 (by repeat (first | exact Mh | apply Mt)) (q_len_c8b32b32 (by assumption) (by assumption)) ?_
            first | (have hz := Lane.txOf_neg (l := ⟨len, L⟩) (c := c) hh2; exact ⟨_, [], rfl, ⟨by rw [hz]; rfl, rfl⟩, H63.sep.sub (List.nil_sublist _)⟩) | (have hz := Lane.txOf_ok (l := ⟨len, L⟩) (c := c) hh1 he1; exact ⟨_, [], rfl, ⟨by rw [hz]; rfl, rfl⟩, H63.sep.sub (List.nil_sublist _)⟩) | (have hz := Lane.txOf_err (l := ⟨len, L⟩) (c := c) hh1 he2; exact ⟨_, [], rfl, ⟨by rw [hz]; rfl, rfl⟩, H63.sep.sub (List.nil_sublist _)⟩)
          · skip
            try simp only [decide_eq_true_eq, decide_eq_false_iff_not, Bool.not_eq_true', Bool.not_eq_false', Bool.and_eq_true, Bool.not_eq_true, Bool.not_eq_false] at hc59
            have he2 := hc59
            refine wp_skip ?_
            refine then_n ?_
            refine wp_seq ?_
            refine reg ?_
            refine plain (y_loadAB rfl z_agg50 z_size50 rfl (by repeat (first | exact Mh | apply Mt)) (q_ld_c8b32b32_0_72 (by assumption) (by assumption)) (q_len_c8b32b32 (by assumption) (by assumption))) rfl rfl rfl H58 ?_
            clear H58; intro a64 H64
            refine st_storeN rfl z_size50 rfl rfl (agg_cells _) (by repeat (first | exact Uh | apply Ut)) (q_one_c8b32b32 rfl rfl rfl rfl rfl rfl rfl rfl) (q_len_c8b32b32 (by assumption) (by assumption)) (q_len_c8b32b32 (by assumption) (by assumption)) (q_spl_c8b32b32_0_c8b32b32 (by assumption) (by assumption) (by assumption) (by assumption)) (by decide) rfl rfl H64 ?_
            clear H64; intro wx65 H65
            refine fin ?_
            refine then_n ?_
            refine wp_ret ?_
            -- return 2
            refine retc rfl H65 rfl z_agg50 z_size50 (by repeat (first | exact Mh | apply Mt)) (q_len_c8b32b32 (by assumption) (by assumption)) ?_
            first | (have hz := Lane.txOf_neg (l := ⟨len, L⟩) (c := c) hh2; exact ⟨_, [], rfl, ⟨by rw [hz]; rfl, rfl⟩, H65.sep.sub (List.nil_sublist _)⟩) | (have hz := Lane.txOf_ok (l := ⟨len, L⟩) (c := c) hh1 he1; exact ⟨_, [], rfl, ⟨by rw [hz]; rfl, rfl⟩, H65.sep.sub (List.nil_sublist _)⟩) | (have hz := Lane.txOf_err (l := ⟨len, L⟩) (c := c) hh1 he2; exact ⟨_, [], rfl, ⟨by rw [hz]; rfl, rfl⟩, H65.sep.sub (List.nil_sublist _)⟩)
        · skip
          try simp only [decide_eq_true_eq, decide_eq_false_iff_not, Bool.not_eq_true', Bool.not_eq_false', Bool.and_eq_true, Bool.not_eq_true, Bool.not_eq_false] at hc46
          have hh2 : c.hand < 0 := by omega
          refine wp_skip ?_
          refine then_n ?_
          refine wp_seq ?_
          refine reg ?_
          refine plain (y_loadAB rfl z_agg50 z_size50 rfl (by repeat (first | exact Mh | apply Mt)) (q_ld_c8b32b32_0_72 (by assumption) (by assumption)) (q_len_c8b32b32 (by assumption) (by assumption))) rfl rfl rfl H45 ?_
          clear H45; intro a66 H66
          refine st_storeN rfl z_size50 rfl rfl (agg_cells _) (by repeat (first | exact Uh | apply Ut)) (q_one_c8b32b32 rfl rfl rfl rfl rfl rfl rfl rfl) (q_len_c8b32b32 (by assumption) (by assumption)) (q_len_c8b32b32 (by assumption) (by assumption)) (q_spl_c8b32b32_0_c8b32b32 (by assumption) (by assumption) (by assumption) (by assumption)) (by decide) rfl rfl H66 ?_
          clear H66; intro wx67 H67
          refine fin ?_
          refine then_n ?_
          refine wp_ret ?_
          -- return 3
          refine retc rfl H67 rfl z_agg50 z_size50 (by repeat (first | exact Mh | apply Mt)) (q_len_c8b32b32 (by assumption) (by assumption)) ?_
          first | (have hz := Lane.txOf_neg (l := ⟨len, L⟩) (c := c) hh2; exact ⟨_, [], rfl, ⟨by rw [hz]; rfl, rfl⟩, H67.sep.sub (List.nil_sublist _)⟩) | (have hz := Lane.txOf_ok (l := ⟨len, L⟩) (c := c) hh1 he1; exact ⟨_, [], rfl, ⟨by rw [hz]; rfl, rfl⟩, H67.sep.sub (List.nil_sublist _)⟩) | (have hz := Lane.txOf_err (l := ⟨len, L⟩) (c := c) hh1 he2; exact ⟨_, [], rfl, ⟨by rw [hz]; rfl, rfl⟩, H67.sep.sub (List.nil_sublist _)⟩)
  · first
    | fail
    | skip
      clear H9; intro H68
      try simp only [decide_eq_true_eq, decide_eq_false_iff_not, Bool.not_eq_true', Bool.not_eq_false', Bool.and_eq_true, Bool.not_eq_true, Bool.not_eq_false] at hg10
      have ht2 : c.turn = false := hg10
      refine skip rfl rfl rfl H68 ?_
      clear H68; intro a69 H69
      refine skip rfl rfl rfl H69 ?_
      clear H69; intro a70 H70
      refine plain (y_pick_f rfl rfl rfl) rfl rfl rfl H70 ?_
      clear H70; intro a71 H71
      refine fin ?_
      refine then_n ?_
      refine wp_cut (fun aC wC => St Tryd.f26.ntmps [] w ([(0, .pointer (some ⟨x, 0, none⟩)), (3, .pointer (some ⟨b1, 0, none⟩)), (4, .pointer (some ⟨b2, 0, none⟩)), (5, .pointer (some ⟨b5, 0, none⟩))]) ([It.blk b5 50 (Txs.Tx.cells (Lane.tx0 ⟨len, L⟩ c)), It.blk b2 50 (Txs.Tx.cells Txs.Tx.zero), It.blk b1 52 (Lane.Act.cells c)]) aC wC) ?_ ?_
      · skip
        refine cnd_f H71 rfl ?_
        refine wp_skip ?_
        refine cut_n ?_
        first | (exact H71.weak ⟨rfl, rfl, rfl, rfl, trivial⟩ (ib (by rw [Lane.tx0_yes ht1 hl1, hwo.2]; rfl))) | (exact H71.weak ⟨rfl, rfl, rfl, rfl, trivial⟩ (ib (by rw [Lane.tx0_yes ht1 hl1, ha1.2]; rfl))) | (exact H71.weak ⟨rfl, rfl, rfl, rfl, trivial⟩ (ib (by rw [Lane.tx0_not hl2]; rfl))) | (exact H71.weak ⟨rfl, rfl, rfl, rfl, trivial⟩ (ib (by rw [Lane.tx0_no ht2]; rfl)))
      · clear H71; intro a73 wx73 hI73
        have H73 := hI73
        refine then_n ?_
        refine wp_seq ?_
        refine wp_seq ?_
        refine reg ?_
        refine plain (y_fieldB rfl z_field52_5 rfl (by first | (simp only [Nat.zero_add, Nat.add_zero, Nat.reduceAdd]; rfl) | rfl)) rfl rfl rfl H73 ?_
        clear H73; intro a74 H74
        refine plain (y_loadB rfl z_agg3 rfl (by repeat (first | exact Mh | apply Mt)) q_ix_c15b32b32_5) rfl rfl rfl H74 ?_
        clear H74; intro a75 H75
        refine plain (y_geq rfl rfl rfl) rfl rfl rfl H75 ?_
        clear H75; intro a76 H76
        refine fin ?_
        refine then_n ?_
        refine cnd H76 rfl (fun hc77 => ?_) (fun hc77 => ?_) -- cond 6
        · skip
          try simp only [decide_eq_true_eq, decide_eq_false_iff_not, Bool.not_eq_true', Bool.not_eq_false', Bool.and_eq_true, Bool.not_eq_true, Bool.not_eq_false] at hc77
          have hh1 : ¬ c.hand < 0 := by omega
          refine wp_seq ?_
          refine reg ?_
          refine plain (y_loadAB rfl z_agg50 z_size50 rfl (by repeat (first | exact Mh | apply Mt)) (q_ld_c8b32b32_0_72 (by assumption) (by assumption)) (q_len_c8b32b32 (by assumption) (by assumption))) rfl rfl rfl H76 ?_
          clear H76; intro a78 H78
          refine plain (y_fieldB rfl z_field52_5 rfl (by first | (simp only [Nat.zero_add, Nat.add_zero, Nat.reduceAdd]; rfl) | rfl)) rfl rfl rfl H78 ?_
          clear H78; intro a79 H79
          refine plain (y_loadB rfl z_agg3 rfl (by repeat (first | exact Mh | apply Mt)) q_ix_c15b32b32_5) rfl rfl rfl H79 ?_
          clear H79; intro a80 H80
          refine st_callg rfl z_call52 rfl rfl rfl rfl H80 (rhand (Lane.tx0 ⟨len, L⟩ c) wf0 c.hand wc.hand _) ?_
          clear H80; intro a81 wx81 H81
          refine plain (y_move rfl rfl) rfl rfl rfl H81 ?_
          clear H81; intro a82 H82
          refine plain (y_extract rfl rfl rfl) rfl rfl rfl H82 ?_
          clear H82; intro a83 H83
          refine plain (y_extract rfl rfl rfl) rfl rfl rfl H83 ?_
          clear H83; intro a84 H84
          refine st_alloc rfl z_zeroN50 rfl rfl rfl H84 ?_
          clear H84; intro b85 a85 wx85 H85
          refine st_storeN rfl z_size50 rfl rfl (agg_cells _) (by repeat (first | exact Uh | apply Ut)) (q_one_c8b32b32 rfl rfl rfl rfl rfl rfl rfl rfl) (q_len_c8b32b32 (by assumption) (by assumption)) (q_len_c8b32b32 (by assumption) (by assumption)) (q_spl_c8b32b32_0_c8b32b32 (by assumption) (by assumption) (by assumption) (by assumption)) (by decide) rfl rfl H85 ?_
          clear H85; intro wx86 H86
          refine plain (y_assign rfl rfl) rfl rfl rfl H86 ?_
          clear H86; intro a87 H87
          refine fin ?_
          refine then_n ?_
          refine wp_seq ?_
          refine reg ?_
          refine plain (y_move rfl rfl) rfl rfl rfl H87 ?_
          clear H87; intro a88 H88
          refine plain (y_eql rfl rfl rfl) rfl rfl rfl H88 ?_
          clear H88; intro a89 H89
          refine fin ?_
          refine then_n ?_
          refine cnd H89 rfl (fun hc90 => ?_) (fun hc90 => ?_) -- cond 7
          · skip
            try simp only [decide_eq_true_eq, decide_eq_false_iff_not, Bool.not_eq_true', Bool.not_eq_false', Bool.and_eq_true, Bool.not_eq_true, Bool.not_eq_false] at hc90
            have he1 := hc90
            refine reg ?_
            refine plain (y_loadAB rfl z_agg50 z_size50 rfl (by repeat (first | exact Mh | apply Mt)) (q_ld_c8b32b32_0_72 (by assumption) (by assumption)) (q_len_c8b32b32 (by assumption) (by assumption))) rfl rfl rfl H89 ?_
            clear H89; intro a91 H91
            refine st_storeN rfl z_size50 rfl rfl (agg_cells _) (by repeat (first | exact Uh | apply Ut)) (q_one_c8b32b32 rfl rfl rfl rfl rfl rfl rfl rfl) (q_len_c8b32b32 (by assumption) (by assumption)) (q_len_c8b32b32 (by assumption) (by assumption)) (q_spl_c8b32b32_0_c8b32b32 (by assumption) (by assumption) (by assumption) (by assumption)) (by decide) rfl rfl H91 ?_
            clear H91; intro wx92 H92
            refine fin ?_
            refine then_n ?_
            refine wp_seq ?_
            refine reg ?_
            refine plain (y_loadAB rfl z_agg50 z_size50 rfl (by repeat (first | exact Mh | apply Mt)) (q_ld_c8b32b32_0_72 (by assumption) (by assumption)) (q_len_c8b32b32 (by assumption) (by assumption))) rfl rfl rfl H92 ?_
            clear H92; intro a93 H93
            refine st_storeN rfl z_size50 rfl rfl (agg_cells _) (by repeat (first | exact Uh | apply Ut)) (q_one_c8b32b32 rfl rfl rfl rfl rfl rfl rfl rfl) (q_len_c8b32b32 (by assumption) (by assumption)) (q_len_c8b32b32 (by assumption) (by assumption)) (q_spl_c8b32b32_0_c8b32b32 (by assumption) (by assumption) (by assumption) (by assumption)) (by decide) rfl rfl H93 ?_
            clear H93; intro wx94 H94
            refine fin ?_
            refine then_n ?_
            refine wp_ret ?_
            -- return 4
            refine retc rfl H94 rfl z_agg50 z_size50 (by repeat (first | exact Mh | apply Mt)) (q_len_c8b32b32 (by assumption) (by assumption)) ?_
            first | (have hz := Lane.txOf_neg (l := ⟨len, L⟩) (c := c) hh2; exact ⟨_, [], rfl, ⟨by rw [hz]; rfl, rfl⟩, H94.sep.sub (List.nil_sublist _)⟩) | (have hz := Lane.txOf_ok (l := ⟨len, L⟩) (c := c) hh1 he1; exact ⟨_, [], rfl, ⟨by rw [hz]; rfl, rfl⟩, H94.sep.sub (List.nil_sublist _)⟩) | (have hz := Lane.txOf_err (l := ⟨len, L⟩) (c := c) hh1 he2; exact ⟨_, [], rfl, ⟨by rw [hz]; rfl, rfl⟩, H94.sep.sub (List.nil_sublist _)⟩)
          · skip
            try simp only [decide_eq_true_eq, decide_eq_false_iff_not, Bool.not_eq_true', Bool.not_eq_false', Bool.and_eq_true, Bool.not_eq_true, Bool.not_eq_false] at hc90
            have he2 := hc90
            refine wp_skip ?_
            refine then_n ?_
            refine wp_seq ?_
            refine reg ?_
            refine plain (y_loadAB rfl z_agg50 z_size50 rfl (by repeat (first | exact Mh | apply Mt)) (q_ld_c8b32b32_0_72 (by assumption) (by assumption)) (q_len_c8b32b32 (by assumption) (by assumption))) rfl rfl rfl H89 ?_
            clear H89; intro a95 H95
            refine st_storeN rfl z_size50 rfl rfl (agg_cells _) (by repeat (first | exact Uh | apply Ut)) (q_one_c8b32b32 rfl rfl rfl rfl rfl rfl rfl rfl) (q_len_c8b32b32 (by assumption) (by assumption)) (q_len_c8b32b32 (by assumption) (by assumption)) (q_spl_c8b32b32_0_c8b32b32 (by assumption) (by assumption) (by assumption) (by assumption)) (by decide) rfl rfl H95 ?_
            clear H95; intro wx96 H96
            refine fin ?_
            refine then_n ?_
            refine wp_ret ?_
            -- return 5
            refine retc rfl H96 rfl z_agg50 z_size50 (by repeat (first | exact Mh | apply Mt)) (q_len_c8b32b32 (by assumption) (by assumption)) ?_
            first | (have hz := Lane.txOf_neg (l := ⟨len, L⟩) (c := c) hh2; exact ⟨_, [], rfl, ⟨by rw [hz]; rfl, rfl⟩, H96.sep.sub (List.nil_sublist _)⟩) | (have hz := Lane.txOf_ok (l := ⟨len, L⟩) (c := c) hh1 he1; exact ⟨_, [], rfl, ⟨by rw [hz]; rfl, rfl⟩, H96.sep.sub (List.nil_sublist _)⟩) | (have hz := Lane.txOf_err (l := ⟨len, L⟩) (c := c) hh1 he2; exact ⟨_, [], rfl, ⟨by rw [hz]; rfl, rfl⟩, H96.sep.sub (List.nil_sublist _)⟩)
        · skip
          try simp only [decide_eq_true_eq, decide_eq_false_iff_not, Bool.not_eq_true', Bool.not_eq_false', Bool.and_eq_true, Bool.not_eq_true, Bool.not_eq_false] at hc77
          have hh2 : c.hand < 0 := by omega
          refine wp_skip ?_
          refine then_n ?_
          refine wp_seq ?_
          refine reg ?_
          refine plain (y_loadAB rfl z_agg50 z_size50 rfl (by repeat (first | exact Mh | apply Mt)) (q_ld_c8b32b32_0_72 (by assumption) (by assumption)) (q_len_c8b32b32 (by assumption) (by assumption))) rfl rfl rfl H76 ?_
          clear H76; intro a97 H97
          refine st_storeN rfl z_size50 rfl rfl (agg_cells _) (by repeat (first | exact Uh | apply Ut)) (q_one_c8b32b32 rfl rfl rfl rfl rfl rfl rfl rfl) (q_len_c8b32b32 (by assumption) (by assumption)) (q_len_c8b32b32 (by assumption) (by assumption)) (q_spl_c8b32b32_0_c8b32b32 (by assumption) (by assumption) (by assumption) (by assumption)) (by decide) rfl rfl H97 ?_
          clear H97; intro wx98 H98
          refine fin ?_
          refine then_n ?_
          refine wp_ret ?_
          -- return 6
          refine retc rfl H98 rfl z_agg50 z_size50 (by repeat (first | exact Mh | apply Mt)) (q_len_c8b32b32 (by assumption) (by assumption)) ?_
          first | (have hz := Lane.txOf_neg (l := ⟨len, L⟩) (c := c) hh2; exact ⟨_, [], rfl, ⟨by rw [hz]; rfl, rfl⟩, H98.sep.sub (List.nil_sublist _)⟩) | (have hz := Lane.txOf_ok (l := ⟨len, L⟩) (c := c) hh1 he1; exact ⟨_, [], rfl, ⟨by rw [hz]; rfl, rfl⟩, H98.sep.sub (List.nil_sublist _)⟩) | (have hz := Lane.txOf_err (l := ⟨len, L⟩) (c := c) hh1 he2; exact ⟨_, [], rfl, ⟨by rw [hz]; rfl, rfl⟩, H98.sep.sub (List.nil_sublist _)⟩)
set_option maxRecDepth 100000 in
set_option maxHeartbeats 1000000 in
theorem xnew (len : Int) (h1 : 1 ≤ len ∧ len ≤ 1099511627776) (w : World) : Calls Tryd.prog 20 #[.int .i64 len] w (Post [] w fun u l' => ∃ x, u = .tuple #[.pointer (some ⟨x, 0, none⟩), .int .i64 0] ∧ l' = [It.row 57 3 (.slice none 0 0) ([] : List Lane.Held).length (Lane.hc ([] : List Lane.Held)), It.blk x 60 [i64 len, (.slice none 0 0)]]) := by
  have lz32 : (List.replicate 32 (0 : UInt8)).length = 32 := List.length_replicate
  refine enterL (args := [.int .i64 len]) Tryd.func20 rfl rfl (l := []) (Sep.refl _) ?_
  intro a0 H0
  refine wp_seq ?_
  refine reg ?_
  refine plain (y_assign rfl rfl) rfl rfl rfl H0 ?_
  clear H0; intro a1 H1
  refine plain (y_assign rfl rfl) rfl rfl rfl H1 ?_
  clear H1; intro a2 H2
  refine fin ?_
  refine then_n ?_
  refine wp_seq ?_
  refine wp_seq ?_
  refine reg ?_
  refine plain (y_move rfl rfl) rfl rfl rfl H2 ?_
  clear H2; intro a3 H3
  refine plain (y_lss rfl rfl rfl) rfl rfl rfl H3 ?_
  clear H3; intro a4 H4
  refine plain (y_move rfl rfl) rfl rfl rfl H4 ?_
  clear H4; intro a5 H5
  have H7 := H5.know (d := 6) (v := .bool false) rfl (congrArg Value.bool (decide_eq_false (by omega)))
  clear H5
  refine plain (y_move rfl rfl) rfl rfl rfl H7 ?_
  clear H7; intro a8 H8
  refine plain (y_gtr rfl rfl rfl) rfl rfl rfl H8 ?_
  clear H8; intro a9 H9
  refine plain (y_pick_f rfl rfl rfl) rfl rfl rfl H9 ?_
  clear H9; intro a10 H10
  refine fin ?_
  refine then_n ?_
  refine cnd H10 rfl (fun hc11 => ?_) (fun hc11 => ?_) -- cond 1
  · (try simp only [decide_eq_true_eq, decide_eq_false_iff_not, Bool.not_eq_true', Bool.not_eq_false', Bool.and_eq_true, Bool.not_eq_true, Bool.not_eq_false] at hc11); (exfalso; omega)
  · skip
    try simp only [decide_eq_true_eq, decide_eq_false_iff_not, Bool.not_eq_true', Bool.not_eq_false', Bool.and_eq_true, Bool.not_eq_true, Bool.not_eq_false] at hc11
    refine wp_skip ?_
    refine then_n ?_
    refine wp_seq ?_
    refine reg ?_
    refine plain (y_move rfl rfl) rfl rfl rfl H10 ?_
    clear H10; intro a12 H12
    refine plain (y_build rfl z_zeroN60 z_places60 rfl (lay_1 (off := 0) (n := 2) rfl q_len_c2 (by decide) q_spl_c2_0_c1 lay_n (by rfl))) rfl rfl rfl H12 ?_
    clear H12; intro a13 H13
    refine st_box rfl rfl (agg_cells _) rfl rfl rfl H13 ?_
    clear H13; intro b14 a14 wx14 H14
    refine plain (y_assign rfl rfl) rfl rfl rfl H14 ?_
    clear H14; intro a15 H15
    refine plain (y_assign rfl rfl) rfl rfl rfl H15 ?_
    clear H15; intro a16 H16
    refine fin ?_
    refine then_n ?_
    refine wp_ret ?_
    -- return 1
    refine ret2 rfl H16 rfl rfl ?_
    replace H16 := H16.nilRow 57 3
    exact ⟨_, _, rfl, ⟨b14, rfl, rfl⟩, H16.sep⟩
set_option maxRecDepth 100000 in
set_option maxHeartbeats 1000000 in
theorem xnewBad (len : Int) (h1 : ¬ (1 ≤ len ∧ len ≤ 1099511627776)) (w : World) : Calls Tryd.prog 20 #[.int .i64 len] w (Gives (.tuple #[.pointer none, .int .i64 2]) [] w) := by
  have lz32 : (List.replicate 32 (0 : UInt8)).length = 32 := List.length_replicate
  refine enterL (args := [.int .i64 len]) Tryd.func20 rfl rfl (l := []) (Sep.refl _) ?_
  intro a0 H0
  refine wp_seq ?_
  refine reg ?_
  refine plain (y_assign rfl rfl) rfl rfl rfl H0 ?_
  clear H0; intro a1 H1
  refine plain (y_assign rfl rfl) rfl rfl rfl H1 ?_
  clear H1; intro a2 H2
  refine fin ?_
  refine then_n ?_
  refine wp_seq ?_
  refine wp_seq ?_
  refine reg ?_
  refine plain (y_move rfl rfl) rfl rfl rfl H2 ?_
  clear H2; intro a3 H3
  refine plain (y_lss rfl rfl rfl) rfl rfl rfl H3 ?_
  clear H3; intro a4 H4
  refine plain (y_move rfl rfl) rfl rfl rfl H4 ?_
  clear H4; intro a5 H5
  refine Sx.part (d := 6) H5 rfl (fun hg6 => ?_) (fun hg6 => ?_)
  · first
    | fail
    | skip
      clear H5; intro H7
      try simp only [decide_eq_true_eq, decide_eq_false_iff_not, Bool.not_eq_true', Bool.not_eq_false', Bool.and_eq_true, Bool.not_eq_true, Bool.not_eq_false] at hg6
      refine skip rfl rfl rfl H7 ?_
      clear H7; intro a8 H8
      refine skip rfl rfl rfl H8 ?_
      clear H8; intro a9 H9
      refine plain (y_pick_t rfl rfl rfl) rfl rfl rfl H9 ?_
      clear H9; intro a10 H10
      refine fin ?_
      refine then_n ?_
      refine cnd_t H10 rfl ?_
      refine wp_seq ?_
      refine reg ?_
      refine plain (y_assign rfl rfl) rfl rfl rfl H10 ?_
      clear H10; intro a12 H12
      refine plain (y_assign rfl rfl) rfl rfl rfl H12 ?_
      clear H12; intro a13 H13
      refine fin ?_
      refine then_n ?_
      refine wp_ret ?_
      refine then_r ?_
      -- return 1
      refine ret2 rfl H13 rfl rfl ?_
      exact ⟨_, [], rfl, ⟨rfl, rfl⟩, H13.sep.sub (List.nil_sublist _)⟩
  · first
    | fail
    | skip
      clear H5; intro H14
      try simp only [decide_eq_true_eq, decide_eq_false_iff_not, Bool.not_eq_true', Bool.not_eq_false', Bool.and_eq_true, Bool.not_eq_true, Bool.not_eq_false] at hg6
      refine plain (y_move rfl rfl) rfl rfl rfl H14 ?_
      clear H14; intro a15 H15
      refine plain (y_gtr rfl rfl rfl) rfl rfl rfl H15 ?_
      clear H15; intro a16 H16
      refine plain (y_pick_f rfl rfl rfl) rfl rfl rfl H16 ?_
      clear H16; intro a17 H17
      refine fin ?_
      refine then_n ?_
      refine cnd H17 rfl (fun hc18 => ?_) (fun hc18 => ?_) -- cond 2
      · skip
        try simp only [decide_eq_true_eq, decide_eq_false_iff_not, Bool.not_eq_true', Bool.not_eq_false', Bool.and_eq_true, Bool.not_eq_true, Bool.not_eq_false] at hc18
        refine wp_seq ?_
        refine reg ?_
        refine plain (y_assign rfl rfl) rfl rfl rfl H17 ?_
        clear H17; intro a19 H19
        refine plain (y_assign rfl rfl) rfl rfl rfl H19 ?_
        clear H19; intro a20 H20
        refine fin ?_
        refine then_n ?_
        refine wp_ret ?_
        refine then_r ?_
        -- return 2
        refine ret2 rfl H20 rfl rfl ?_
        exact ⟨_, [], rfl, ⟨rfl, rfl⟩, H20.sep.sub (List.nil_sublist _)⟩
      · (try simp only [decide_eq_true_eq, decide_eq_false_iff_not, Bool.not_eq_true', Bool.not_eq_false', Bool.and_eq_true, Bool.not_eq_true, Bool.not_eq_false] at hc18); (exfalso; omega)

end Go.Proofs.YtaeahloenahelaaDoor.A_Ltx

set_option linter.unusedVariables false
set_option linter.unusedSimpArgs false
namespace Go.Proofs.YtaeahloenahelaaDoor.A_Ldo
open Go.Sx Go.RowKit Go.Proofs.YtaeahloenahelaaDoor.A_Block Go.Proofs.YtaeahloenahelaaDoor.A_Sum Go.Proofs.YtaeahloenahelaaDoor.A_Ref Go.Proofs.YtaeahloenahelaaDoor.A_RSum Go.Proofs.YtaeahloenahelaaDoor.A_Ln1 Go.Proofs.YtaeahloenahelaaDoor.A_Ln2 Go.Proofs.YtaeahloenahelaaDoor.A_Ln3 Go.Proofs.YtaeahloenahelaaDoor.A_Tx Go.Proofs.YtaeahloenahelaaDoor.A_Body Go.Proofs.YtaeahloenahelaaDoor.A_RBody Go.Proofs.YtaeahloenahelaaDoor.A_RHand Go.Proofs.YtaeahloenahelaaDoor.A_Chk Go.Proofs.YtaeahloenahelaaDoor.A_Leaf Go.Proofs.YtaeahloenahelaaDoor.A_Key Go.Proofs.YtaeahloenahelaaDoor.A_Tag Go.Proofs.YtaeahloenahelaaDoor.A_X1 Go.Proofs.YtaeahloenahelaaDoor.A_X2 Go.Proofs.YtaeahloenahelaaDoor.A_X3 Go.Proofs.YtaeahloenahelaaDoor.A_Ltx

theorem z_field52_0 : fieldB Tryd.prog 52 0 = some 0 := by kernel_rfl
theorem z_agg3 : aggB Tryd.prog 3 = some false := by kernel_rfl
theorem q_ix_c15b32b32_0 {a0 a1 a2 a3 a4 a5 a6 a7 a8 a9 a10 a11 a12 a13 a14 : Value} {t15 t16 : List UInt8} : (a0 :: a1 :: a2 :: a3 :: a4 :: a5 :: a6 :: a7 :: a8 :: a9 :: a10 :: a11 :: a12 :: a13 :: a14 :: (t15.map u8 ++ (t16.map u8)))[0]? = some a0 := ix_0
theorem z_field52_1 : fieldB Tryd.prog 52 1 = some 1 := by kernel_rfl
theorem q_ix_c15b32b32_1 {a0 a1 a2 a3 a4 a5 a6 a7 a8 a9 a10 a11 a12 a13 a14 : Value} {t15 t16 : List UInt8} : (a0 :: a1 :: a2 :: a3 :: a4 :: a5 :: a6 :: a7 :: a8 :: a9 :: a10 :: a11 :: a12 :: a13 :: a14 :: (t15.map u8 ++ (t16.map u8)))[1]? = some a1 := (ix_c (o := 0) ix_0)
theorem z_field52_2 : fieldB Tryd.prog 52 2 = some 2 := by kernel_rfl
theorem q_ix_c15b32b32_2 {a0 a1 a2 a3 a4 a5 a6 a7 a8 a9 a10 a11 a12 a13 a14 : Value} {t15 t16 : List UInt8} : (a0 :: a1 :: a2 :: a3 :: a4 :: a5 :: a6 :: a7 :: a8 :: a9 :: a10 :: a11 :: a12 :: a13 :: a14 :: (t15.map u8 ++ (t16.map u8)))[2]? = some a2 := (ix_c (o := 1) (ix_c (o := 0) ix_0))
theorem z_call29 : callB Tryd.prog 29 = true := by kernel_rfl
theorem z_call53 : callB Tryd.prog 53 = true := by kernel_rfl
theorem z_field52_3 : fieldB Tryd.prog 52 3 = some 3 := by kernel_rfl
theorem q_ix_c15b32b32_3 {a0 a1 a2 a3 a4 a5 a6 a7 a8 a9 a10 a11 a12 a13 a14 : Value} {t15 t16 : List UInt8} : (a0 :: a1 :: a2 :: a3 :: a4 :: a5 :: a6 :: a7 :: a8 :: a9 :: a10 :: a11 :: a12 :: a13 :: a14 :: (t15.map u8 ++ (t16.map u8)))[3]? = some a3 := (ix_c (o := 2) (ix_c (o := 1) (ix_c (o := 0) ix_0)))
theorem z_field52_4 : fieldB Tryd.prog 52 4 = some 4 := by kernel_rfl
theorem q_ix_c15b32b32_4 {a0 a1 a2 a3 a4 a5 a6 a7 a8 a9 a10 a11 a12 a13 a14 : Value} {t15 t16 : List UInt8} : (a0 :: a1 :: a2 :: a3 :: a4 :: a5 :: a6 :: a7 :: a8 :: a9 :: a10 :: a11 :: a12 :: a13 :: a14 :: (t15.map u8 ++ (t16.map u8)))[4]? = some a4 := (ix_c (o := 3) (ix_c (o := 2) (ix_c (o := 1) (ix_c (o := 0) ix_0))))
theorem z_call30 : callB Tryd.prog 30 = true := by kernel_rfl
theorem z_call54 : callB Tryd.prog 54 = true := by kernel_rfl
theorem z_agg52 : aggB Tryd.prog 52 = some true := by kernel_rfl
theorem z_size52 : sizeB Tryd.prog 52 = some 79 := by kernel_rfl
theorem q_ld_c15b32b32_0_79 {a0 a1 a2 a3 a4 a5 a6 a7 a8 a9 a10 a11 a12 a13 a14 : Value} {t15 t16 : List UInt8} (h15 : t15.length = 32) (h16 : t16.length = 32) : ((a0 :: a1 :: a2 :: a3 :: a4 :: a5 :: a6 :: a7 :: a8 :: a9 :: a10 :: a11 :: a12 :: a13 :: a14 :: (t15.map u8 ++ (t16.map u8))).drop 0).take 79 = a0 :: a1 :: a2 :: a3 :: a4 :: a5 :: a6 :: a7 :: a8 :: a9 :: a10 :: a11 :: a12 :: a13 :: a14 :: (t15.map u8 ++ (t16.map u8)) := (ld_a (len_c (n := 78) (len_c (n := 77) (len_c (n := 76) (len_c (n := 75) (len_c (n := 74) (len_c (n := 73) (len_c (n := 72) (len_c (n := 71) (len_c (n := 70) (len_c (n := 69) (len_c (n := 68) (len_c (n := 67) (len_c (n := 66) (len_c (n := 65) (len_c (n := 64) (len_b (k := 32) (n := 32) h15 (len_e (k := 32) h16))))))))))))))))))
theorem q_len_c15b32b32 {a0 a1 a2 a3 a4 a5 a6 a7 a8 a9 a10 a11 a12 a13 a14 : Value} {t15 t16 : List UInt8} (h15 : t15.length = 32) (h16 : t16.length = 32) : (a0 :: a1 :: a2 :: a3 :: a4 :: a5 :: a6 :: a7 :: a8 :: a9 :: a10 :: a11 :: a12 :: a13 :: a14 :: (t15.map u8 ++ (t16.map u8))).length = 79 := (len_c (n := 78) (len_c (n := 77) (len_c (n := 76) (len_c (n := 75) (len_c (n := 74) (len_c (n := 73) (len_c (n := 72) (len_c (n := 71) (len_c (n := 70) (len_c (n := 69) (len_c (n := 68) (len_c (n := 67) (len_c (n := 66) (len_c (n := 65) (len_c (n := 64) (len_b (k := 32) (n := 32) h15 (len_e (k := 32) h16)))))))))))))))))
theorem z_call26 : callB Tryd.prog 26 = true := by kernel_rfl
theorem z_zeroN50 : zeroL Tryd.prog 50 = some ((.int .i64 0 :: (.int .i64 0 :: (.int .i64 0 :: (.int .i64 0 :: (.string ⟨#[]⟩ :: (.bool false :: (.int .i64 0 :: (.int .i64 0 :: ((List.replicate 32 (0 : UInt8)).map u8 ++ (List.replicate 32 (0 : UInt8)).map u8)))))))))) := by kernel_rfl
theorem z_size50 : sizeB Tryd.prog 50 = some 72 := by kernel_rfl
theorem q_one_c8b32b32 {a0 a1 a2 a3 a4 a5 a6 a7 : Value} {t8 t9 : List UInt8} (o0 : a0.oneCell' = true) (o1 : a1.oneCell' = true) (o2 : a2.oneCell' = true) (o3 : a3.oneCell' = true) (o4 : a4.oneCell' = true) (o5 : a5.oneCell' = true) (o6 : a6.oneCell' = true) (o7 : a7.oneCell' = true) : (a0 :: a1 :: a2 :: a3 :: a4 :: a5 :: a6 :: a7 :: (t8.map u8 ++ (t9.map u8))).all (·.oneCell') = true := (one_c o0 (one_c o1 (one_c o2 (one_c o3 (one_c o4 (one_c o5 (one_c o6 (one_c o7 (one_b (one_u8 _))))))))))
theorem q_len_c8b32b32 {a0 a1 a2 a3 a4 a5 a6 a7 : Value} {t8 t9 : List UInt8} (h8 : t8.length = 32) (h9 : t9.length = 32) : (a0 :: a1 :: a2 :: a3 :: a4 :: a5 :: a6 :: a7 :: (t8.map u8 ++ (t9.map u8))).length = 72 := (len_c (n := 71) (len_c (n := 70) (len_c (n := 69) (len_c (n := 68) (len_c (n := 67) (len_c (n := 66) (len_c (n := 65) (len_c (n := 64) (len_b (k := 32) (n := 32) h8 (len_e (k := 32) h9))))))))))
theorem q_spl_c8b32b32_0_c8b32b32 {a0 a1 a2 a3 a4 a5 a6 a7 : Value} {t8 t9 : List UInt8} {b0 b1 b2 b3 b4 b5 b6 b7 : Value} {s8 s9 : List UInt8} (h8 : t8.length = 32) (h9 : t9.length = 32) (g8 : s8.length = 32) (g9 : s9.length = 32) : spl (a0 :: a1 :: a2 :: a3 :: a4 :: a5 :: a6 :: a7 :: (t8.map u8 ++ (t9.map u8))) 0 (b0 :: b1 :: b2 :: b3 :: b4 :: b5 :: b6 :: b7 :: (s8.map u8 ++ (s9.map u8))) = b0 :: b1 :: b2 :: b3 :: b4 :: b5 :: b6 :: b7 :: (s8.map u8 ++ (s9.map u8)) := (spl_a (z := 72) (len_c (n := 71) (len_c (n := 70) (len_c (n := 69) (len_c (n := 68) (len_c (n := 67) (len_c (n := 66) (len_c (n := 65) (len_c (n := 64) (len_b (k := 32) (n := 32) h8 (len_e (k := 32) h9)))))))))) (len_c (n := 71) (len_c (n := 70) (len_c (n := 69) (len_c (n := 68) (len_c (n := 67) (len_c (n := 66) (len_c (n := 65) (len_c (n := 64) (len_b (k := 32) (n := 32) g8 (len_e (k := 32) g9)))))))))))
theorem z_agg50 : aggB Tryd.prog 50 = some true := by kernel_rfl
theorem q_ld_c8b32b32_0_72 {a0 a1 a2 a3 a4 a5 a6 a7 : Value} {t8 t9 : List UInt8} (h8 : t8.length = 32) (h9 : t9.length = 32) : ((a0 :: a1 :: a2 :: a3 :: a4 :: a5 :: a6 :: a7 :: (t8.map u8 ++ (t9.map u8))).drop 0).take 72 = a0 :: a1 :: a2 :: a3 :: a4 :: a5 :: a6 :: a7 :: (t8.map u8 ++ (t9.map u8)) := (ld_a (len_c (n := 71) (len_c (n := 70) (len_c (n := 69) (len_c (n := 68) (len_c (n := 67) (len_c (n := 66) (len_c (n := 65) (len_c (n := 64) (len_b (k := 32) (n := 32) h8 (len_e (k := 32) h9)))))))))))
theorem z_call27 : callB Tryd.prog 27 = true := by kernel_rfl
theorem z_call55 : callB Tryd.prog 55 = true := by kernel_rfl
theorem z_call28 : callB Tryd.prog 28 = true := by kernel_rfl
theorem z_call56 : callB Tryd.prog 56 = true := by kernel_rfl

set_option maxRecDepth 100000 in
set_option maxHeartbeats 4000000 in
theorem ldo (len : Int) (L : List Lane.Held) (f : Int → Option Value) (hl : L.length ≤ 1000000) (hg : Lane.Good ⟨len, L⟩) (hT : Lane.Turns L f) (c : Lane.Act) (wc : Lane.Act.Wf c) (b h u x : Nat) (v : Value) {w : World} (hs : Sep (fps [It.row 57 3 v L.length (Lane.hc L), It.blk x 60 [i64 len, v], It.blk b 101 (Lane.lc len h u), It.mp h (Lane.hm L), It.mp u f]) w w [It.row 57 3 v L.length (Lane.hc L), It.blk x 60 [i64 len, v], It.blk b 101 (Lane.lc len h u), It.mp h (Lane.hm L), It.mp u f]) (hG : Glob 0 Sha.K w) (hz : 0 ∉ fps [It.row 57 3 v L.length (Lane.hc L), It.blk x 60 [i64 len, v], It.blk b 101 (Lane.lc len h u), It.mp h (Lane.hm L), It.mp u f]) : Calls Tryd.prog 21 #[.pointer (some ⟨b, 0, none⟩), .pointer (some ⟨x, 0, none⟩), .agg (Lane.Act.cells c).toArray] w (Post (fps [It.row 57 3 v L.length (Lane.hc L), It.blk x 60 [i64 len, v], It.blk b 101 (Lane.lc len h u), It.mp h (Lane.hm L), It.mp u f]) w fun r l' => r = .bool true ∧ ∃ f' v', Lane.Turns (Lane.doo ⟨len, L⟩ c).L f' ∧ l' = [It.row 57 3 v' (Lane.doo ⟨len, L⟩ c).L.length (Lane.hc (Lane.doo ⟨len, L⟩ c).L), It.blk x 60 [i64 len, v'], It.blk b 101 (Lane.lc len h u), It.mp h (Lane.hm (Lane.doo ⟨len, L⟩ c).L), It.mp u f']) := by
  have whd := wc.tx.hand
  have wtg := wc.tx.tag
  have wfx := Lane.txOf_wf hg wc
  have whx := wfx.hand
  have wtx := wfx.tag
  have hz3 : 0 ∉ fps [It.blk b 101 (Lane.lc len h u), It.mp h (Lane.hm L), It.mp u f] := fun hm => hz (Lane.fps_right (l := [It.row 57 3 v L.length (Lane.hc L), It.blk x 60 [i64 len, v]]) hm)
  have lz32 : (List.replicate 32 (0 : UInt8)).length = 32 := List.length_replicate
  have lz0 := wc.tx.hand
  have lz1 := wc.tx.tag
  refine enterL (args := [.pointer (some ⟨b, 0, none⟩), .pointer (some ⟨x, 0, none⟩), .agg (Lane.Act.cells c).toArray]) Tryd.func21 rfl rfl (l := [It.row 57 3 v L.length (Lane.hc L), It.blk x 60 [i64 len, v], It.blk b 101 (Lane.lc len h u), It.mp h (Lane.hm L), It.mp u f]) hs ?_
  intro a0 H0
  refine wp_seq ?_
  refine reg ?_
  refine st_box rfl rfl (agg_cells _) rfl rfl rfl H0 ?_
  clear H0; intro b1 a1 wx1 H1
  refine plain (y_assign rfl rfl) rfl rfl rfl H1 ?_
  clear H1; intro a2 H2
  refine fin ?_
  refine then_n ?_
  refine wp_seq ?_
  refine wp_seq ?_
  refine reg ?_
  refine plain (y_fieldB rfl z_field52_0 rfl (by first | (simp only [Nat.zero_add, Nat.add_zero, Nat.reduceAdd]; rfl) | rfl)) rfl rfl rfl H2 ?_
  clear H2; intro a3 H3
  refine plain (y_loadB rfl z_agg3 rfl (by repeat (first | exact Mh | apply Mt)) q_ix_c15b32b32_0) rfl rfl rfl H3 ?_
  clear H3; intro a4 H4
  refine fin ?_
  refine then_n ?_
  refine wp_block ?_
  refine wp_seq ?_
  refine reg ?_
  refine plain (y_eql rfl rfl rfl) rfl rfl rfl H4 ?_
  clear H4; intro a5 H5
  refine plain (y_assign rfl rfl) rfl rfl rfl H5 ?_
  clear H5; intro a6 H6
  refine fin ?_
  refine then_n ?_
  refine cnd H6 rfl (fun hc7 => ?_) (fun hc7 => ?_) -- cond 1
  · skip
    try simp only [decide_eq_true_eq, decide_eq_false_iff_not, Bool.not_eq_true', Bool.not_eq_false', Bool.and_eq_true, Bool.not_eq_true, Bool.not_eq_false] at hc7
    have hk0 := hc7
    refine wp_seq ?_
    refine hreg [It.blk b1 52 (Lane.Act.cells c)] (fun _ h => (h.sub (by first | exact S0 | exact S1 | repeat (first | exact S1 | exact S0 | apply S2 | apply S3)))) (by kernel_rfl) H6 ?_
    clear H6; intro wx8 H8
    refine htake 0 rfl (by kernel_rfl) (y_move rfl rfl) rfl rfl rfl (fun _ h => (h.sub (by first | exact S0 | exact S1 | repeat (first | exact S1 | exact S0 | apply S2 | apply S3)))) H8 ?_
    clear H8; intro a9 H9
    refine htake 1 rfl (by kernel_rfl) (y_fieldB rfl z_field52_1 rfl (by first | (simp only [Nat.zero_add, Nat.add_zero, Nat.reduceAdd]; rfl) | rfl)) rfl rfl rfl (fun _ h => (h.sub (by first | exact S0 | exact S1 | repeat (first | exact S1 | exact S0 | apply S2 | apply S3)))) H9 ?_
    clear H9; intro a10 H10
    refine htake 2 rfl (by kernel_rfl) (y_loadB rfl z_agg3 rfl (by repeat (first | exact Mh | apply Mt)) q_ix_c15b32b32_1) rfl rfl rfl (fun _ h => (h.sub (by first | exact S0 | exact S1 | repeat (first | exact S1 | exact S0 | apply S2 | apply S3)))) H10 ?_
    clear H10; intro a11 H11
    refine htake 3 rfl (by kernel_rfl) (y_fieldB rfl z_field52_2 rfl (by first | (simp only [Nat.zero_add, Nat.add_zero, Nat.reduceAdd]; rfl) | rfl)) rfl rfl rfl (fun _ h => (h.sub (by first | exact S0 | exact S1 | repeat (first | exact S1 | exact S0 | apply S2 | apply S3)))) H11 ?_
    clear H11; intro a12 H12
    refine htake 4 rfl (by kernel_rfl) (y_loadB rfl z_agg3 rfl (by repeat (first | exact Mh | apply Mt)) q_ix_c15b32b32_2) rfl rfl rfl (fun _ h => (h.sub (by first | exact S0 | exact S1 | repeat (first | exact S1 | exact S0 | apply S2 | apply S3)))) H12 ?_
    clear H12; intro a13 H13
    refine htake 6 rfl (by kernel_rfl) (y_move rfl rfl) rfl rfl rfl (fun _ h => (h.sub (by first | exact S0 | exact S1 | repeat (first | exact S1 | exact S0 | apply S2 | apply S3)))) H13 ?_
    clear H13; intro a14 H14
    refine htake 7 rfl (by kernel_rfl) (y_fieldB rfl z_field52_1 rfl (by first | (simp only [Nat.zero_add, Nat.add_zero, Nat.reduceAdd]; rfl) | rfl)) rfl rfl rfl (fun _ h => (h.sub (by first | exact S0 | exact S1 | repeat (first | exact S1 | exact S0 | apply S2 | apply S3)))) H14 ?_
    clear H14; intro a15 H15
    refine htake 8 rfl (by kernel_rfl) (y_loadB rfl z_agg3 rfl (by repeat (first | exact Mh | apply Mt)) q_ix_c15b32b32_1) rfl rfl rfl (fun _ h => (h.sub (by first | exact S0 | exact S1 | repeat (first | exact S1 | exact S0 | apply S2 | apply S3)))) H15 ?_
    clear H15; intro a16 H16
    refine htake 9 rfl (by kernel_rfl) (y_fieldB rfl z_field52_2 rfl (by first | (simp only [Nat.zero_add, Nat.add_zero, Nat.reduceAdd]; rfl) | rfl)) rfl rfl rfl (fun _ h => (h.sub (by first | exact S0 | exact S1 | repeat (first | exact S1 | exact S0 | apply S2 | apply S3)))) H16 ?_
    clear H16; intro a17 H17
    refine htake 10 rfl (by kernel_rfl) (y_loadB rfl z_agg3 rfl (by repeat (first | exact Mh | apply Mt)) q_ix_c15b32b32_2) rfl rfl rfl (fun _ h => (h.sub (by first | exact S0 | exact S1 | repeat (first | exact S1 | exact S0 | apply S2 | apply S3)))) H17 ?_
    clear H17; intro a18 H18
    refine hgo 5 rfl (by kernel_rfl) ?_
    refine st_callk2 (is := [It.blk b 101 (Lane.lc len h u), It.mp h (Lane.hm L), It.mp u f]) (enters_call rfl z_call29 rfl) rfl rfl rfl H18 (.cons (by repeat (first | exact Ph | apply Pt)) (.cons (by repeat (first | exact Ph | apply Pt)) (.cons (by repeat (first | exact Ph | apply Pt)) (.nil _)))) (fun hs => lset len L f c.round c.a b h u hs) ?_
    clear H18; intro v19 l19 a19 wx19 hf19 H19
    obtain ⟨rfl, rfl⟩ := hf19
    simp only [List.cons_append, List.nil_append] at H19
    refine hfin (H19.sep.sub (by first | exact S0 | exact S1 | repeat (first | exact S1 | exact S0 | apply S2 | apply S3))) ?_
    refine hgo 11 rfl (by kernel_rfl) ?_
    refine st_callk2 (is := [It.row 57 3 v L.length (Lane.hc L), It.blk x 60 [i64 len, v]]) (enters_call rfl z_call53 rfl) rfl rfl rfl H19 (.cons (by repeat (first | exact Ph | apply Pt)) (.cons (by repeat (first | exact Ph | apply Pt)) (.nil _))) (fun hs => xset len L hl x v c.round c.a hs) ?_
    clear H19; intro v20 l20 a20 wx20 hf20 H20
    obtain ⟨rfl, v1, rfl⟩ := hf20
    simp only [List.cons_append, List.nil_append] at H20
    refine hfin (H20.sep.sub (by first | exact S0 | exact S1 | repeat (first | exact S1 | exact S0 | apply S2 | apply S3))) ?_
    refine htake 12 rfl (by kernel_rfl) (y_eql rfl rfl rfl) rfl rfl rfl (fun _ h => (h.sub (by first | exact S0 | exact S1 | repeat (first | exact S1 | exact S0 | apply S2 | apply S3)))) H20 ?_
    clear H20; intro a21 H21
    refine htake 13 rfl (by kernel_rfl) (y_assign rfl rfl) rfl rfl rfl (fun _ h => (h.sub (by first | exact S0 | exact S1 | repeat (first | exact S1 | exact S0 | apply S2 | apply S3)))) H21 ?_
    clear H21; intro a22 H22
    refine hdone (by kernel_rfl) ?_
    refine then_n ?_
    refine wp_ret ?_
    refine inb_r ?_
    refine then_r ?_
    -- return 1
    refine ret1 rfl H22 rfl ?_
    first | (have hd := Lane.doo_set (l := ⟨len, L⟩) (c := c) hk0; rw [hd]; exact ⟨_, _, rfl, ⟨congrArg Value.bool (decide_eq_true rfl), f, v1, (Lane.turns_of_set hT _ _), rfl⟩, H22.sep.sub (by first | exact S0 | exact S1 | repeat (first | exact S1 | exact S0 | apply S2 | apply S3))⟩) | (have hd := Lane.doo_give (l := ⟨len, L⟩) (c := c) hn0 hk1; rw [hd]; exact ⟨_, _, rfl, ⟨congrArg Value.bool (decide_eq_true rfl), f, v1, (Lane.turns_of_give hT _ _ _ _), rfl⟩, H22.sep.sub (by first | exact S0 | exact S1 | repeat (first | exact S1 | exact S0 | apply S2 | apply S3))⟩) | (have hd := Lane.doo_none (l := ⟨len, L⟩) (c := c) hn0 hn1 hk2; rw [hd]; exact ⟨_, _, rfl, ⟨congrArg Value.bool (decide_eq_true rfl), f, v, hT, rfl⟩, H22.sep.sub (by first | exact S0 | exact S1 | repeat (first | exact S1 | exact S0 | apply S2 | apply S3))⟩) | (have hd := Lane.doo_take (l := ⟨len, L⟩) (c := c) hn0 hn1 hn2; rw [hd]; exact ⟨_, _, rfl, ⟨congrArg Value.bool (decide_eq_true rfl), f1, v1, hT1, rfl⟩, H22.sep.sub (by first | exact S0 | exact S1 | repeat (first | exact S1 | exact S0 | apply S2 | apply S3))⟩)
  · skip
    try simp only [decide_eq_true_eq, decide_eq_false_iff_not, Bool.not_eq_true', Bool.not_eq_false', Bool.and_eq_true, Bool.not_eq_true, Bool.not_eq_false] at hc7
    have hn0 := hc7
    refine wp_seq ?_
    refine reg ?_
    refine plain (y_eql rfl rfl rfl) rfl rfl rfl H6 ?_
    clear H6; intro a23 H23
    refine plain (y_assign rfl rfl) rfl rfl rfl H23 ?_
    clear H23; intro a24 H24
    refine fin ?_
    refine then_n ?_
    refine cnd H24 rfl (fun hc25 => ?_) (fun hc25 => ?_) -- cond 2
    · skip
      try simp only [decide_eq_true_eq, decide_eq_false_iff_not, Bool.not_eq_true', Bool.not_eq_false', Bool.and_eq_true, Bool.not_eq_true, Bool.not_eq_false] at hc25
      have hk1 := hc25
      refine wp_seq ?_
      refine hreg [It.blk b1 52 (Lane.Act.cells c)] (fun _ h => (h.sub (by first | exact S0 | exact S1 | repeat (first | exact S1 | exact S0 | apply S2 | apply S3)))) (by kernel_rfl) H24 ?_
      clear H24; intro wx26 H26
      refine htake 0 rfl (by kernel_rfl) (y_move rfl rfl) rfl rfl rfl (fun _ h => (h.sub (by first | exact S0 | exact S1 | repeat (first | exact S1 | exact S0 | apply S2 | apply S3)))) H26 ?_
      clear H26; intro a27 H27
      refine htake 1 rfl (by kernel_rfl) (y_fieldB rfl z_field52_1 rfl (by first | (simp only [Nat.zero_add, Nat.add_zero, Nat.reduceAdd]; rfl) | rfl)) rfl rfl rfl (fun _ h => (h.sub (by first | exact S0 | exact S1 | repeat (first | exact S1 | exact S0 | apply S2 | apply S3)))) H27 ?_
      clear H27; intro a28 H28
      refine htake 2 rfl (by kernel_rfl) (y_loadB rfl z_agg3 rfl (by repeat (first | exact Mh | apply Mt)) q_ix_c15b32b32_1) rfl rfl rfl (fun _ h => (h.sub (by first | exact S0 | exact S1 | repeat (first | exact S1 | exact S0 | apply S2 | apply S3)))) H28 ?_
      clear H28; intro a29 H29
      refine htake 3 rfl (by kernel_rfl) (y_fieldB rfl z_field52_2 rfl (by first | (simp only [Nat.zero_add, Nat.add_zero, Nat.reduceAdd]; rfl) | rfl)) rfl rfl rfl (fun _ h => (h.sub (by first | exact S0 | exact S1 | repeat (first | exact S1 | exact S0 | apply S2 | apply S3)))) H29 ?_
      clear H29; intro a30 H30
      refine htake 4 rfl (by kernel_rfl) (y_loadB rfl z_agg3 rfl (by repeat (first | exact Mh | apply Mt)) q_ix_c15b32b32_2) rfl rfl rfl (fun _ h => (h.sub (by first | exact S0 | exact S1 | repeat (first | exact S1 | exact S0 | apply S2 | apply S3)))) H30 ?_
      clear H30; intro a31 H31
      refine htake 5 rfl (by kernel_rfl) (y_fieldB rfl z_field52_3 rfl (by first | (simp only [Nat.zero_add, Nat.add_zero, Nat.reduceAdd]; rfl) | rfl)) rfl rfl rfl (fun _ h => (h.sub (by first | exact S0 | exact S1 | repeat (first | exact S1 | exact S0 | apply S2 | apply S3)))) H31 ?_
      clear H31; intro a32 H32
      refine htake 6 rfl (by kernel_rfl) (y_loadB rfl z_agg3 rfl (by repeat (first | exact Mh | apply Mt)) q_ix_c15b32b32_3) rfl rfl rfl (fun _ h => (h.sub (by first | exact S0 | exact S1 | repeat (first | exact S1 | exact S0 | apply S2 | apply S3)))) H32 ?_
      clear H32; intro a33 H33
      refine htake 7 rfl (by kernel_rfl) (y_fieldB rfl z_field52_4 rfl (by first | (simp only [Nat.zero_add, Nat.add_zero, Nat.reduceAdd]; rfl) | rfl)) rfl rfl rfl (fun _ h => (h.sub (by first | exact S0 | exact S1 | repeat (first | exact S1 | exact S0 | apply S2 | apply S3)))) H33 ?_
      clear H33; intro a34 H34
      refine htake 8 rfl (by kernel_rfl) (y_loadB rfl z_agg3 rfl (by repeat (first | exact Mh | apply Mt)) q_ix_c15b32b32_4) rfl rfl rfl (fun _ h => (h.sub (by first | exact S0 | exact S1 | repeat (first | exact S1 | exact S0 | apply S2 | apply S3)))) H34 ?_
      clear H34; intro a35 H35
      refine htake 10 rfl (by kernel_rfl) (y_move rfl rfl) rfl rfl rfl (fun _ h => (h.sub (by first | exact S0 | exact S1 | repeat (first | exact S1 | exact S0 | apply S2 | apply S3)))) H35 ?_
      clear H35; intro a36 H36
      refine htake 11 rfl (by kernel_rfl) (y_fieldB rfl z_field52_1 rfl (by first | (simp only [Nat.zero_add, Nat.add_zero, Nat.reduceAdd]; rfl) | rfl)) rfl rfl rfl (fun _ h => (h.sub (by first | exact S0 | exact S1 | repeat (first | exact S1 | exact S0 | apply S2 | apply S3)))) H36 ?_
      clear H36; intro a37 H37
      refine htake 12 rfl (by kernel_rfl) (y_loadB rfl z_agg3 rfl (by repeat (first | exact Mh | apply Mt)) q_ix_c15b32b32_1) rfl rfl rfl (fun _ h => (h.sub (by first | exact S0 | exact S1 | repeat (first | exact S1 | exact S0 | apply S2 | apply S3)))) H37 ?_
      clear H37; intro a38 H38
      refine htake 13 rfl (by kernel_rfl) (y_fieldB rfl z_field52_2 rfl (by first | (simp only [Nat.zero_add, Nat.add_zero, Nat.reduceAdd]; rfl) | rfl)) rfl rfl rfl (fun _ h => (h.sub (by first | exact S0 | exact S1 | repeat (first | exact S1 | exact S0 | apply S2 | apply S3)))) H38 ?_
      clear H38; intro a39 H39
      refine htake 14 rfl (by kernel_rfl) (y_loadB rfl z_agg3 rfl (by repeat (first | exact Mh | apply Mt)) q_ix_c15b32b32_2) rfl rfl rfl (fun _ h => (h.sub (by first | exact S0 | exact S1 | repeat (first | exact S1 | exact S0 | apply S2 | apply S3)))) H39 ?_
      clear H39; intro a40 H40
      refine htake 15 rfl (by kernel_rfl) (y_fieldB rfl z_field52_3 rfl (by first | (simp only [Nat.zero_add, Nat.add_zero, Nat.reduceAdd]; rfl) | rfl)) rfl rfl rfl (fun _ h => (h.sub (by first | exact S0 | exact S1 | repeat (first | exact S1 | exact S0 | apply S2 | apply S3)))) H40 ?_
      clear H40; intro a41 H41
      refine htake 16 rfl (by kernel_rfl) (y_loadB rfl z_agg3 rfl (by repeat (first | exact Mh | apply Mt)) q_ix_c15b32b32_3) rfl rfl rfl (fun _ h => (h.sub (by first | exact S0 | exact S1 | repeat (first | exact S1 | exact S0 | apply S2 | apply S3)))) H41 ?_
      clear H41; intro a42 H42
      refine htake 17 rfl (by kernel_rfl) (y_fieldB rfl z_field52_4 rfl (by first | (simp only [Nat.zero_add, Nat.add_zero, Nat.reduceAdd]; rfl) | rfl)) rfl rfl rfl (fun _ h => (h.sub (by first | exact S0 | exact S1 | repeat (first | exact S1 | exact S0 | apply S2 | apply S3)))) H42 ?_
      clear H42; intro a43 H43
      refine htake 18 rfl (by kernel_rfl) (y_loadB rfl z_agg3 rfl (by repeat (first | exact Mh | apply Mt)) q_ix_c15b32b32_4) rfl rfl rfl (fun _ h => (h.sub (by first | exact S0 | exact S1 | repeat (first | exact S1 | exact S0 | apply S2 | apply S3)))) H43 ?_
      clear H43; intro a44 H44
      refine hgo 9 rfl (by kernel_rfl) ?_
      refine st_callk2 (is := [It.blk b 101 (Lane.lc len h u), It.mp h (Lane.hm L), It.mp u f]) (enters_call rfl z_call30 rfl) rfl rfl rfl H44 (.cons (by repeat (first | exact Ph | apply Pt)) (.cons (by repeat (first | exact Ph | apply Pt)) (.cons (by repeat (first | exact Ph | apply Pt)) (.nil _)))) (fun hs => lgive len L f hg.len.1 c.round c.a c.b c.now wc.now b h u hs) ?_
      clear H44; intro v45 l45 a45 wx45 hf45 H45
      obtain ⟨rfl, rfl⟩ := hf45
      simp only [List.cons_append, List.nil_append] at H45
      refine hfin (H45.sep.sub (by first | exact S0 | exact S1 | repeat (first | exact S1 | exact S0 | apply S2 | apply S3))) ?_
      refine hgo 19 rfl (by kernel_rfl) ?_
      refine st_callk2 (is := [It.row 57 3 v L.length (Lane.hc L), It.blk x 60 [i64 len, v]]) (enters_call rfl z_call54 rfl) rfl rfl rfl H45 (.cons (by repeat (first | exact Ph | apply Pt)) (.cons (by repeat (first | exact Ph | apply Pt)) (.nil _))) (fun hs => xgive len L hl x v hg.len.1 c.round c.a c.b c.now wc.now hs) ?_
      clear H45; intro v46 l46 a46 wx46 hf46 H46
      obtain ⟨rfl, v1, rfl⟩ := hf46
      simp only [List.cons_append, List.nil_append] at H46
      refine hfin (H46.sep.sub (by first | exact S0 | exact S1 | repeat (first | exact S1 | exact S0 | apply S2 | apply S3))) ?_
      refine htake 20 rfl (by kernel_rfl) (y_eql rfl rfl rfl) rfl rfl rfl (fun _ h => (h.sub (by first | exact S0 | exact S1 | repeat (first | exact S1 | exact S0 | apply S2 | apply S3)))) H46 ?_
      clear H46; intro a47 H47
      refine htake 21 rfl (by kernel_rfl) (y_assign rfl rfl) rfl rfl rfl (fun _ h => (h.sub (by first | exact S0 | exact S1 | repeat (first | exact S1 | exact S0 | apply S2 | apply S3)))) H47 ?_
      clear H47; intro a48 H48
      refine hdone (by kernel_rfl) ?_
      refine then_n ?_
      refine wp_ret ?_
      refine inb_r ?_
      refine then_r ?_
      -- return 2
      refine ret1 rfl H48 rfl ?_
      first | (have hd := Lane.doo_set (l := ⟨len, L⟩) (c := c) hk0; rw [hd]; exact ⟨_, _, rfl, ⟨congrArg Value.bool (decide_eq_true rfl), f, v1, (Lane.turns_of_set hT _ _), rfl⟩, H48.sep.sub (by first | exact S0 | exact S1 | repeat (first | exact S1 | exact S0 | apply S2 | apply S3))⟩) | (have hd := Lane.doo_give (l := ⟨len, L⟩) (c := c) hn0 hk1; rw [hd]; exact ⟨_, _, rfl, ⟨congrArg Value.bool (decide_eq_true rfl), f, v1, (Lane.turns_of_give hT _ _ _ _), rfl⟩, H48.sep.sub (by first | exact S0 | exact S1 | repeat (first | exact S1 | exact S0 | apply S2 | apply S3))⟩) | (have hd := Lane.doo_none (l := ⟨len, L⟩) (c := c) hn0 hn1 hk2; rw [hd]; exact ⟨_, _, rfl, ⟨congrArg Value.bool (decide_eq_true rfl), f, v, hT, rfl⟩, H48.sep.sub (by first | exact S0 | exact S1 | repeat (first | exact S1 | exact S0 | apply S2 | apply S3))⟩) | (have hd := Lane.doo_take (l := ⟨len, L⟩) (c := c) hn0 hn1 hn2; rw [hd]; exact ⟨_, _, rfl, ⟨congrArg Value.bool (decide_eq_true rfl), f1, v1, hT1, rfl⟩, H48.sep.sub (by first | exact S0 | exact S1 | repeat (first | exact S1 | exact S0 | apply S2 | apply S3))⟩)
    · skip
      try simp only [decide_eq_true_eq, decide_eq_false_iff_not, Bool.not_eq_true', Bool.not_eq_false', Bool.and_eq_true, Bool.not_eq_true, Bool.not_eq_false] at hc25
      have hn1 := hc25
      refine wp_seq ?_
      refine reg ?_
      refine plain (y_eql rfl rfl rfl) rfl rfl rfl H24 ?_
      clear H24; intro a49 H49
      refine plain (y_assign rfl rfl) rfl rfl rfl H49 ?_
      clear H49; intro a50 H50
      refine fin ?_
      refine then_n ?_
      refine cnd H50 rfl (fun hc51 => ?_) (fun hc51 => ?_) -- cond 3
      · skip
        try simp only [decide_eq_true_eq, decide_eq_false_iff_not, Bool.not_eq_true', Bool.not_eq_false', Bool.and_eq_true, Bool.not_eq_true, Bool.not_eq_false] at hc51
        have hk2 := hc51
        refine wp_seq ?_
        refine reg ?_
        refine plain (y_move rfl rfl) rfl rfl rfl H50 ?_
        clear H50; intro a52 H52
        refine plain (y_loadAB rfl z_agg52 z_size52 rfl (by repeat (first | exact Mh | apply Mt)) (q_ld_c15b32b32_0_79 (by assumption) (by assumption)) (q_len_c15b32b32 (by assumption) (by assumption))) rfl rfl rfl H52 ?_
        clear H52; intro a53 H53
        refine st_callg rfl z_call26 rfl rfl rfl rfl H53 (ltx len L hl hg c wc x v (H53.sep.all _ (by repeat (first | exact Mh | apply Mt))) (H53.sep.all _ (by repeat (first | exact Mh | apply Mt)))) ?_
        clear H53; intro a54 wx54 H54
        refine st_alloc rfl z_zeroN50 rfl rfl rfl H54 ?_
        clear H54; intro b55 a55 wx55 H55
        refine st_storeN rfl z_size50 rfl rfl (agg_cells _) (by repeat (first | exact Uh | apply Ut)) (q_one_c8b32b32 rfl rfl rfl rfl rfl rfl rfl rfl) (q_len_c8b32b32 (by assumption) (by assumption)) (q_len_c8b32b32 (by assumption) (by assumption)) (q_spl_c8b32b32_0_c8b32b32 (by assumption) (by assumption) (by assumption) (by assumption)) (by decide) rfl rfl H55 ?_
        clear H55; intro wx56 H56
        refine fin ?_
        refine then_n ?_
        refine wp_seq ?_
        refine hreg [It.blk b55 50 (Txs.Tx.cells (Lane.txOf ⟨len, L⟩ c)), It.blk b1 52 (Lane.Act.cells c)] (fun _ h => (h.sub (by first | exact S0 | exact S1 | repeat (first | exact S1 | exact S0 | apply S2 | apply S3)))) (by kernel_rfl) H56 ?_
        clear H56; intro wx57 H57
        refine htake 0 rfl (by kernel_rfl) (y_move rfl rfl) rfl rfl rfl (fun _ h => (h.sub (by first | exact S0 | exact S1 | repeat (first | exact S1 | exact S0 | apply S2 | apply S3)))) H57 ?_
        clear H57; intro a58 H58
        refine htake 1 rfl (by kernel_rfl) (y_loadAB rfl z_agg50 z_size50 rfl (by repeat (first | exact Mh | apply Mt)) (q_ld_c8b32b32_0_72 (by assumption) (by assumption)) (q_len_c8b32b32 (by assumption) (by assumption))) rfl rfl rfl (fun _ h => (h.sub (by first | exact S0 | exact S1 | repeat (first | exact S1 | exact S0 | apply S2 | apply S3)))) H58 ?_
        clear H58; intro a59 H59
        refine htake 2 rfl (by kernel_rfl) (y_fieldB rfl z_field52_4 rfl (by first | (simp only [Nat.zero_add, Nat.add_zero, Nat.reduceAdd]; rfl) | rfl)) rfl rfl rfl (fun _ h => (h.sub (by first | exact S0 | exact S1 | repeat (first | exact S1 | exact S0 | apply S2 | apply S3)))) H59 ?_
        clear H59; intro a60 H60
        refine htake 3 rfl (by kernel_rfl) (y_loadB rfl z_agg3 rfl (by repeat (first | exact Mh | apply Mt)) q_ix_c15b32b32_4) rfl rfl rfl (fun _ h => (h.sub (by first | exact S0 | exact S1 | repeat (first | exact S1 | exact S0 | apply S2 | apply S3)))) H60 ?_
        clear H60; intro a61 H61
        refine htake 5 rfl (by kernel_rfl) (y_move rfl rfl) rfl rfl rfl (fun _ h => (h.sub (by first | exact S0 | exact S1 | repeat (first | exact S1 | exact S0 | apply S2 | apply S3)))) H61 ?_
        clear H61; intro a62 H62
        refine htake 6 rfl (by kernel_rfl) (y_loadAB rfl z_agg50 z_size50 rfl (by repeat (first | exact Mh | apply Mt)) (q_ld_c8b32b32_0_72 (by assumption) (by assumption)) (q_len_c8b32b32 (by assumption) (by assumption))) rfl rfl rfl (fun _ h => (h.sub (by first | exact S0 | exact S1 | repeat (first | exact S1 | exact S0 | apply S2 | apply S3)))) H62 ?_
        clear H62; intro a63 H63
        refine htake 7 rfl (by kernel_rfl) (y_fieldB rfl z_field52_4 rfl (by first | (simp only [Nat.zero_add, Nat.add_zero, Nat.reduceAdd]; rfl) | rfl)) rfl rfl rfl (fun _ h => (h.sub (by first | exact S0 | exact S1 | repeat (first | exact S1 | exact S0 | apply S2 | apply S3)))) H63 ?_
        clear H63; intro a64 H64
        refine htake 8 rfl (by kernel_rfl) (y_loadB rfl z_agg3 rfl (by repeat (first | exact Mh | apply Mt)) q_ix_c15b32b32_4) rfl rfl rfl (fun _ h => (h.sub (by first | exact S0 | exact S1 | repeat (first | exact S1 | exact S0 | apply S2 | apply S3)))) H64 ?_
        clear H64; intro a65 H65
        refine hgo 4 rfl (by kernel_rfl) ?_
        refine st_callg rfl z_call27 rfl rfl rfl rfl H65 (lcheck len L f hg hT (Lane.txOf ⟨len, L⟩ c) wfx c.now wc.now b h u (H65.sep.all _ (by repeat (first | exact Mh | apply Mt))) (H65.sep.all _ (by repeat (first | exact Mh | apply Mt))) (H65.sep.all _ (by repeat (first | exact Mh | apply Mt))) (hG.frm H65.sep.frm hz)) ?_
        clear H65; intro a66 wx66 H66
        refine hfin (H66.sep.sub (by first | exact S0 | exact S1 | repeat (first | exact S1 | exact S0 | apply S2 | apply S3))) ?_
        refine hgo 9 rfl (by kernel_rfl) ?_
        refine st_callg rfl z_call55 rfl rfl rfl rfl H66 (xcheck len L hl hg (Lane.txOf ⟨len, L⟩ c) wfx c.now wc.now x v (H66.sep.all _ (by repeat (first | exact Mh | apply Mt))) (H66.sep.all _ (by repeat (first | exact Mh | apply Mt)))) ?_
        clear H66; intro a67 wx67 H67
        refine hfin (H67.sep.sub (by first | exact S0 | exact S1 | repeat (first | exact S1 | exact S0 | apply S2 | apply S3))) ?_
        refine htake 10 rfl (by kernel_rfl) (y_eql rfl rfl rfl) rfl rfl rfl (fun _ h => (h.sub (by first | exact S0 | exact S1 | repeat (first | exact S1 | exact S0 | apply S2 | apply S3)))) H67 ?_
        clear H67; intro a68 H68
        refine htake 11 rfl (by kernel_rfl) (y_assign rfl rfl) rfl rfl rfl (fun _ h => (h.sub (by first | exact S0 | exact S1 | repeat (first | exact S1 | exact S0 | apply S2 | apply S3)))) H68 ?_
        clear H68; intro a69 H69
        refine hdone (by kernel_rfl) ?_
        refine then_n ?_
        refine wp_ret ?_
        refine inb_r ?_
        refine then_r ?_
        -- return 3
        refine ret1 rfl H69 rfl ?_
        first | (have hd := Lane.doo_set (l := ⟨len, L⟩) (c := c) hk0; rw [hd]; exact ⟨_, _, rfl, ⟨congrArg Value.bool (decide_eq_true rfl), f, v1, (Lane.turns_of_set hT _ _), rfl⟩, H69.sep.sub (by first | exact S0 | exact S1 | repeat (first | exact S1 | exact S0 | apply S2 | apply S3))⟩) | (have hd := Lane.doo_give (l := ⟨len, L⟩) (c := c) hn0 hk1; rw [hd]; exact ⟨_, _, rfl, ⟨congrArg Value.bool (decide_eq_true rfl), f, v1, (Lane.turns_of_give hT _ _ _ _), rfl⟩, H69.sep.sub (by first | exact S0 | exact S1 | repeat (first | exact S1 | exact S0 | apply S2 | apply S3))⟩) | (have hd := Lane.doo_none (l := ⟨len, L⟩) (c := c) hn0 hn1 hk2; rw [hd]; exact ⟨_, _, rfl, ⟨congrArg Value.bool (decide_eq_true rfl), f, v, hT, rfl⟩, H69.sep.sub (by first | exact S0 | exact S1 | repeat (first | exact S1 | exact S0 | apply S2 | apply S3))⟩) | (have hd := Lane.doo_take (l := ⟨len, L⟩) (c := c) hn0 hn1 hn2; rw [hd]; exact ⟨_, _, rfl, ⟨congrArg Value.bool (decide_eq_true rfl), f1, v1, hT1, rfl⟩, H69.sep.sub (by first | exact S0 | exact S1 | repeat (first | exact S1 | exact S0 | apply S2 | apply S3))⟩)
      · skip
        try simp only [decide_eq_true_eq, decide_eq_false_iff_not, Bool.not_eq_true', Bool.not_eq_false', Bool.and_eq_true, Bool.not_eq_true, Bool.not_eq_false] at hc51
        have hn2 := hc51
        refine wp_skip ?_
        refine inb_n ?_
        refine then_n ?_
        refine wp_seq ?_
        refine reg ?_
        refine plain (y_move rfl rfl) rfl rfl rfl H50 ?_
        clear H50; intro a70 H70
        refine plain (y_loadAB rfl z_agg52 z_size52 rfl (by repeat (first | exact Mh | apply Mt)) (q_ld_c15b32b32_0_79 (by assumption) (by assumption)) (q_len_c15b32b32 (by assumption) (by assumption))) rfl rfl rfl H70 ?_
        clear H70; intro a71 H71
        refine st_callg rfl z_call26 rfl rfl rfl rfl H71 (ltx len L hl hg c wc x v (H71.sep.all _ (by repeat (first | exact Mh | apply Mt))) (H71.sep.all _ (by repeat (first | exact Mh | apply Mt)))) ?_
        clear H71; intro a72 wx72 H72
        refine st_alloc rfl z_zeroN50 rfl rfl rfl H72 ?_
        clear H72; intro b73 a73 wx73 H73
        refine st_storeN rfl z_size50 rfl rfl (agg_cells _) (by repeat (first | exact Uh | apply Ut)) (q_one_c8b32b32 rfl rfl rfl rfl rfl rfl rfl rfl) (q_len_c8b32b32 (by assumption) (by assumption)) (q_len_c8b32b32 (by assumption) (by assumption)) (q_spl_c8b32b32_0_c8b32b32 (by assumption) (by assumption) (by assumption) (by assumption)) (by decide) rfl rfl H73 ?_
        clear H73; intro wx74 H74
        refine fin ?_
        refine then_n ?_
        refine wp_seq ?_
        refine hreg [It.blk b73 50 (Txs.Tx.cells (Lane.txOf ⟨len, L⟩ c)), It.blk b1 52 (Lane.Act.cells c)] (fun _ h => (h.sub (by first | exact S0 | exact S1 | repeat (first | exact S1 | exact S0 | apply S2 | apply S3)))) (by kernel_rfl) H74 ?_
        clear H74; intro wx75 H75
        refine htake 0 rfl (by kernel_rfl) (y_move rfl rfl) rfl rfl rfl (fun _ h => (h.sub (by first | exact S0 | exact S1 | repeat (first | exact S1 | exact S0 | apply S2 | apply S3)))) H75 ?_
        clear H75; intro a76 H76
        refine htake 1 rfl (by kernel_rfl) (y_loadAB rfl z_agg50 z_size50 rfl (by repeat (first | exact Mh | apply Mt)) (q_ld_c8b32b32_0_72 (by assumption) (by assumption)) (q_len_c8b32b32 (by assumption) (by assumption))) rfl rfl rfl (fun _ h => (h.sub (by first | exact S0 | exact S1 | repeat (first | exact S1 | exact S0 | apply S2 | apply S3)))) H76 ?_
        clear H76; intro a77 H77
        refine htake 2 rfl (by kernel_rfl) (y_fieldB rfl z_field52_4 rfl (by first | (simp only [Nat.zero_add, Nat.add_zero, Nat.reduceAdd]; rfl) | rfl)) rfl rfl rfl (fun _ h => (h.sub (by first | exact S0 | exact S1 | repeat (first | exact S1 | exact S0 | apply S2 | apply S3)))) H77 ?_
        clear H77; intro a78 H78
        refine htake 3 rfl (by kernel_rfl) (y_loadB rfl z_agg3 rfl (by repeat (first | exact Mh | apply Mt)) q_ix_c15b32b32_4) rfl rfl rfl (fun _ h => (h.sub (by first | exact S0 | exact S1 | repeat (first | exact S1 | exact S0 | apply S2 | apply S3)))) H78 ?_
        clear H78; intro a79 H79
        refine htake 5 rfl (by kernel_rfl) (y_move rfl rfl) rfl rfl rfl (fun _ h => (h.sub (by first | exact S0 | exact S1 | repeat (first | exact S1 | exact S0 | apply S2 | apply S3)))) H79 ?_
        clear H79; intro a80 H80
        refine htake 6 rfl (by kernel_rfl) (y_loadAB rfl z_agg50 z_size50 rfl (by repeat (first | exact Mh | apply Mt)) (q_ld_c8b32b32_0_72 (by assumption) (by assumption)) (q_len_c8b32b32 (by assumption) (by assumption))) rfl rfl rfl (fun _ h => (h.sub (by first | exact S0 | exact S1 | repeat (first | exact S1 | exact S0 | apply S2 | apply S3)))) H80 ?_
        clear H80; intro a81 H81
        refine htake 7 rfl (by kernel_rfl) (y_fieldB rfl z_field52_4 rfl (by first | (simp only [Nat.zero_add, Nat.add_zero, Nat.reduceAdd]; rfl) | rfl)) rfl rfl rfl (fun _ h => (h.sub (by first | exact S0 | exact S1 | repeat (first | exact S1 | exact S0 | apply S2 | apply S3)))) H81 ?_
        clear H81; intro a82 H82
        refine htake 8 rfl (by kernel_rfl) (y_loadB rfl z_agg3 rfl (by repeat (first | exact Mh | apply Mt)) q_ix_c15b32b32_4) rfl rfl rfl (fun _ h => (h.sub (by first | exact S0 | exact S1 | repeat (first | exact S1 | exact S0 | apply S2 | apply S3)))) H82 ?_
        clear H82; intro a83 H83
        refine hgo 4 rfl (by kernel_rfl) ?_
        refine st_callk2 (is := [It.blk b 101 (Lane.lc len h u), It.mp h (Lane.hm L), It.mp u f]) (enters_call rfl z_call28 rfl) rfl rfl rfl H83 (.cons (by repeat (first | exact Ph | apply Pt)) (.cons (by repeat (first | exact Ph | apply Pt)) (.cons (by repeat (first | exact Ph | apply Pt)) (.nil _)))) (fun hs => ltake len L f hg hT (Lane.txOf ⟨len, L⟩ c) wfx c.now wc.now b h u hs (hG.frm H83.sep.frm hz) hz3) ?_
        clear H83; intro v84 l84 a84 wx84 hf84 H84
        obtain ⟨rfl, f1, hT1, rfl⟩ := hf84
        simp only [List.cons_append, List.nil_append] at H84
        refine hfin (H84.sep.sub (by first | exact S0 | exact S1 | repeat (first | exact S1 | exact S0 | apply S2 | apply S3))) ?_
        refine hgo 9 rfl (by kernel_rfl) ?_
        refine st_callk2 (is := [It.row 57 3 v L.length (Lane.hc L), It.blk x 60 [i64 len, v]]) (enters_call rfl z_call56 rfl) rfl rfl rfl H84 (.cons (by repeat (first | exact Ph | apply Pt)) (.cons (by repeat (first | exact Ph | apply Pt)) (.nil _))) (fun hs => xtake len L hl hg (Lane.txOf ⟨len, L⟩ c) wfx c.now wc.now x v hs) ?_
        clear H84; intro v85 l85 a85 wx85 hf85 H85
        obtain ⟨rfl, v1, rfl⟩ := hf85
        simp only [List.cons_append, List.nil_append] at H85
        refine hfin (H85.sep.sub (by first | exact S0 | exact S1 | repeat (first | exact S1 | exact S0 | apply S2 | apply S3))) ?_
        refine htake 10 rfl (by kernel_rfl) (y_eql rfl rfl rfl) rfl rfl rfl (fun _ h => (h.sub (by first | exact S0 | exact S1 | repeat (first | exact S1 | exact S0 | apply S2 | apply S3)))) H85 ?_
        clear H85; intro a86 H86
        refine htake 11 rfl (by kernel_rfl) (y_assign rfl rfl) rfl rfl rfl (fun _ h => (h.sub (by first | exact S0 | exact S1 | repeat (first | exact S1 | exact S0 | apply S2 | apply S3)))) H86 ?_
        clear H86; intro a87 H87
        refine hdone (by kernel_rfl) ?_
        refine then_n ?_
        refine wp_ret ?_
        -- return 4
        refine ret1 rfl H87 rfl ?_
        first | (have hd := Lane.doo_set (l := ⟨len, L⟩) (c := c) hk0; rw [hd]; exact ⟨_, _, rfl, ⟨congrArg Value.bool (decide_eq_true rfl), f, v1, (Lane.turns_of_set hT _ _), rfl⟩, H87.sep.sub (by first | exact S0 | exact S1 | repeat (first | exact S1 | exact S0 | apply S2 | apply S3))⟩) | (have hd := Lane.doo_give (l := ⟨len, L⟩) (c := c) hn0 hk1; rw [hd]; exact ⟨_, _, rfl, ⟨congrArg Value.bool (decide_eq_true rfl), f, v1, (Lane.turns_of_give hT _ _ _ _), rfl⟩, H87.sep.sub (by first | exact S0 | exact S1 | repeat (first | exact S1 | exact S0 | apply S2 | apply S3))⟩) | (have hd := Lane.doo_none (l := ⟨len, L⟩) (c := c) hn0 hn1 hk2; rw [hd]; exact ⟨_, _, rfl, ⟨congrArg Value.bool (decide_eq_true rfl), f, v, hT, rfl⟩, H87.sep.sub (by first | exact S0 | exact S1 | repeat (first | exact S1 | exact S0 | apply S2 | apply S3))⟩) | (have hd := Lane.doo_take (l := ⟨len, L⟩) (c := c) hn0 hn1 hn2; rw [hd]; exact ⟨_, _, rfl, ⟨congrArg Value.bool (decide_eq_true rfl), f1, v1, hT1, rfl⟩, H87.sep.sub (by first | exact S0 | exact S1 | repeat (first | exact S1 | exact S0 | apply S2 | apply S3))⟩)

end Go.Proofs.YtaeahloenahelaaDoor.A_Ldo

set_option linter.unusedVariables false
set_option linter.unusedSimpArgs false
namespace Go.Proofs.YtaeahloenahelaaDoor.A_Ln4
open Go.Sx Go.RowKit Go.Proofs.YtaeahloenahelaaDoor.A_Block Go.Proofs.YtaeahloenahelaaDoor.A_Sum Go.Proofs.YtaeahloenahelaaDoor.A_Ref Go.Proofs.YtaeahloenahelaaDoor.A_RSum Go.Proofs.YtaeahloenahelaaDoor.A_Ln1 Go.Proofs.YtaeahloenahelaaDoor.A_Ln2 Go.Proofs.YtaeahloenahelaaDoor.A_Ln3 Go.Proofs.YtaeahloenahelaaDoor.A_Tx Go.Proofs.YtaeahloenahelaaDoor.A_Body Go.Proofs.YtaeahloenahelaaDoor.A_RBody Go.Proofs.YtaeahloenahelaaDoor.A_RHand Go.Proofs.YtaeahloenahelaaDoor.A_Chk Go.Proofs.YtaeahloenahelaaDoor.A_Leaf Go.Proofs.YtaeahloenahelaaDoor.A_Key Go.Proofs.YtaeahloenahelaaDoor.A_Tag

theorem z_call17 : callB Tryd.prog 17 = true := by kernel_rfl
theorem z_call29 : callB Tryd.prog 29 = true := by kernel_rfl
theorem z_zeroN50 : zeroL Tryd.prog 50 = some ((.int .i64 0 :: (.int .i64 0 :: (.int .i64 0 :: (.int .i64 0 :: (.string ⟨#[]⟩ :: (.bool false :: (.int .i64 0 :: (.int .i64 0 :: ((List.replicate 32 (0 : UInt8)).map u8 ++ (List.replicate 32 (0 : UInt8)).map u8)))))))))) := by kernel_rfl
theorem z_places50 : placesB Tryd.prog 50 = some [(0, 1), (1, 1), (2, 1), (3, 1), (4, 1), (5, 1), (6, 1), (7, 1), (8, 32), (40, 32)] := by kernel_rfl
theorem q_len_c8b32b32 {a0 a1 a2 a3 a4 a5 a6 a7 : Value} {t8 t9 : List UInt8} (h8 : t8.length = 32) (h9 : t9.length = 32) : (a0 :: a1 :: a2 :: a3 :: a4 :: a5 :: a6 :: a7 :: (t8.map u8 ++ (t9.map u8))).length = 72 := (len_c (n := 71) (len_c (n := 70) (len_c (n := 69) (len_c (n := 68) (len_c (n := 67) (len_c (n := 66) (len_c (n := 65) (len_c (n := 64) (len_b (k := 32) (n := 32) h8 (len_e (k := 32) h9))))))))))
theorem q_spl_c8b32b32_5_c1 {a0 a1 a2 a3 a4 a5 a6 a7 : Value} {t8 t9 : List UInt8} {b0 : Value} : spl (a0 :: a1 :: a2 :: a3 :: a4 :: a5 :: a6 :: a7 :: (t8.map u8 ++ (t9.map u8))) 5 (b0 :: []) = a0 :: a1 :: a2 :: a3 :: a4 :: b0 :: a6 :: a7 :: (t8.map u8 ++ (t9.map u8)) := (spl_c (o := 4) (spl_c (o := 3) (spl_c (o := 2) (spl_c (o := 1) (spl_c (o := 0) spl_0)))))
theorem q_spl_c8b32b32_6_c1 {a0 a1 a2 a3 a4 a5 a6 a7 : Value} {t8 t9 : List UInt8} {b0 : Value} : spl (a0 :: a1 :: a2 :: a3 :: a4 :: a5 :: a6 :: a7 :: (t8.map u8 ++ (t9.map u8))) 6 (b0 :: []) = a0 :: a1 :: a2 :: a3 :: a4 :: a5 :: b0 :: a7 :: (t8.map u8 ++ (t9.map u8)) := (spl_c (o := 5) (spl_c (o := 4) (spl_c (o := 3) (spl_c (o := 2) (spl_c (o := 1) (spl_c (o := 0) spl_0))))))
theorem z_call52 : callB Tryd.prog 52 = true := by kernel_rfl
theorem z_size50 : sizeB Tryd.prog 50 = some 72 := by kernel_rfl
theorem q_one_c8b32b32 {a0 a1 a2 a3 a4 a5 a6 a7 : Value} {t8 t9 : List UInt8} (o0 : a0.oneCell' = true) (o1 : a1.oneCell' = true) (o2 : a2.oneCell' = true) (o3 : a3.oneCell' = true) (o4 : a4.oneCell' = true) (o5 : a5.oneCell' = true) (o6 : a6.oneCell' = true) (o7 : a7.oneCell' = true) : (a0 :: a1 :: a2 :: a3 :: a4 :: a5 :: a6 :: a7 :: (t8.map u8 ++ (t9.map u8))).all (·.oneCell') = true := (one_c o0 (one_c o1 (one_c o2 (one_c o3 (one_c o4 (one_c o5 (one_c o6 (one_c o7 (one_b (one_u8 _))))))))))
theorem q_spl_c8b32b32_0_c8b32b32 {a0 a1 a2 a3 a4 a5 a6 a7 : Value} {t8 t9 : List UInt8} {b0 b1 b2 b3 b4 b5 b6 b7 : Value} {s8 s9 : List UInt8} (h8 : t8.length = 32) (h9 : t9.length = 32) (g8 : s8.length = 32) (g9 : s9.length = 32) : spl (a0 :: a1 :: a2 :: a3 :: a4 :: a5 :: a6 :: a7 :: (t8.map u8 ++ (t9.map u8))) 0 (b0 :: b1 :: b2 :: b3 :: b4 :: b5 :: b6 :: b7 :: (s8.map u8 ++ (s9.map u8))) = b0 :: b1 :: b2 :: b3 :: b4 :: b5 :: b6 :: b7 :: (s8.map u8 ++ (s9.map u8)) := (spl_a (z := 72) (len_c (n := 71) (len_c (n := 70) (len_c (n := 69) (len_c (n := 68) (len_c (n := 67) (len_c (n := 66) (len_c (n := 65) (len_c (n := 64) (len_b (k := 32) (n := 32) h8 (len_e (k := 32) h9)))))))))) (len_c (n := 71) (len_c (n := 70) (len_c (n := 69) (len_c (n := 68) (len_c (n := 67) (len_c (n := 66) (len_c (n := 65) (len_c (n := 64) (len_b (k := 32) (n := 32) g8 (len_e (k := 32) g9)))))))))))
theorem z_call19 : callB Tryd.prog 19 = true := by kernel_rfl
theorem z_agg50 : aggB Tryd.prog 50 = some true := by kernel_rfl
theorem q_ld_c8b32b32_0_72 {a0 a1 a2 a3 a4 a5 a6 a7 : Value} {t8 t9 : List UInt8} (h8 : t8.length = 32) (h9 : t9.length = 32) : ((a0 :: a1 :: a2 :: a3 :: a4 :: a5 :: a6 :: a7 :: (t8.map u8 ++ (t9.map u8))).drop 0).take 72 = a0 :: a1 :: a2 :: a3 :: a4 :: a5 :: a6 :: a7 :: (t8.map u8 ++ (t9.map u8)) := (ld_a (len_c (n := 71) (len_c (n := 70) (len_c (n := 69) (len_c (n := 68) (len_c (n := 67) (len_c (n := 66) (len_c (n := 65) (len_c (n := 64) (len_b (k := 32) (n := 32) h8 (len_e (k := 32) h9)))))))))))
theorem z_call28 : callB Tryd.prog 28 = true := by kernel_rfl
theorem z_call27 : callB Tryd.prog 27 = true := by kernel_rfl

set_option maxRecDepth 100000 in
set_option maxHeartbeats 4000000 in
theorem lawake16 {w : World} (hG : Glob 0 Sha.K w) : Calls Tryd.prog 18 #[] w (Gives (.bool true) [] w) := by
  have whd := Lane.awU_wf.hand
  have wtg := Lane.awU_wf.tag
  have htd := Lane.awT_wf.hand
  have lz32 : (List.replicate 32 (0 : UInt8)).length = 32 := List.length_replicate
  have lz0 := Lane.awU_wf.hand
  refine enterL (args := []) Tryd.func18 rfl rfl (l := []) (Sep.refl _) ?_
  intro a0 H0
  refine wp_seq ?_
  refine reg ?_
  refine plain (y_assign rfl rfl) rfl rfl rfl H0 ?_
  clear H0; intro a1 H1
  refine fin ?_
  refine then_n ?_
  refine wp_seq ?_
  refine reg ?_
  refine st_call rfl z_call17 rfl rfl rfl rfl H1 (lnew 10 (by decide) _) ?_
  clear H1; intro v2 l2 a2 wx2 hf2 H2
  obtain ⟨b, h, u, rfl, rfl⟩ := hf2
  simp only [List.cons_append, List.nil_append] at H2
  refine plain (y_move rfl rfl) rfl rfl rfl H2 ?_
  clear H2; intro a3 H3
  refine plain (y_extract rfl rfl rfl) rfl rfl rfl H3 ?_
  clear H3; intro a4 H4
  refine plain (y_extract rfl rfl rfl) rfl rfl rfl H4 ?_
  clear H4; intro a5 H5
  refine plain (y_assign rfl rfl) rfl rfl rfl H5 ?_
  clear H5; intro a6 H6
  refine plain (y_assign rfl rfl) rfl rfl rfl H6 ?_
  clear H6; intro a7 H7
  refine fin ?_
  refine then_n ?_
  refine wp_seq ?_
  refine wp_seq ?_
  refine reg ?_
  refine plain (y_move rfl rfl) rfl rfl rfl H7 ?_
  clear H7; intro a8 H8
  refine plain (y_neq rfl rfl rfl) rfl rfl rfl H8 ?_
  clear H8; intro a9 H9
  refine plain (y_move rfl rfl) rfl rfl rfl H9 ?_
  clear H9; intro a10 H10
  have H12 := H10.know (d := 11) (v := .bool false) rfl (congrArg Value.bool (decide_eq_false (by decide)))
  clear H10
  refine plain (y_move rfl rfl) rfl rfl rfl H12 ?_
  clear H12; intro a13 H13
  refine plain (y_peql rfl Tryd.underlying39 rfl rfl) rfl rfl rfl H13 ?_
  clear H13; intro a14 H14
  refine plain (y_pick_f rfl rfl rfl) rfl rfl rfl H14 ?_
  clear H14; intro a15 H15
  refine plain (y_move rfl rfl) rfl rfl rfl H15 ?_
  clear H15; intro a16 H16
  have H18 := H16.know (d := 15) (v := .bool false) rfl (rfl)
  clear H16
  refine plain (y_move rfl rfl) rfl rfl rfl H18 ?_
  clear H18; intro a19 H19
  refine st_callk2 (is := [It.blk b 101 (Lane.lc 10 h u), It.mp h (Lane.hm []), It.mp u (fun _ => none)]) (enters_call rfl z_call29 rfl) rfl rfl rfl H19 (.cons (by repeat (first | exact Ph | apply Pt)) (.cons (by repeat (first | exact Ph | apply Pt)) (.cons (by repeat (first | exact Ph | apply Pt)) (.nil _)))) (fun hs => lset 10 [] (fun _ => none) 2 5 b h u hs) ?_
  clear H19; intro v20 l20 a20 wx20 hf20 H20
  rw [Lane.aw_set] at hf20
  obtain ⟨rfl, rfl⟩ := hf20
  simp only [List.cons_append, List.nil_append] at H20
  refine plain (y_neq rfl rfl rfl) rfl rfl rfl H20 ?_
  clear H20; intro a21 H21
  refine plain (y_pick_f rfl rfl rfl) rfl rfl rfl H21 ?_
  clear H21; intro a22 H22
  refine fin ?_
  refine then_n ?_
  refine cnd H22 rfl (fun hc23 => ?_) (fun hc23 => ?_) -- cond 1
  · (try simp only [decide_eq_true_eq, decide_eq_false_iff_not, Bool.not_eq_true', Bool.not_eq_false', Bool.and_eq_true, Bool.not_eq_true, Bool.not_eq_false] at hc23); (exfalso; exact hc23 rfl)
  · skip
    try simp only [decide_eq_true_eq, decide_eq_false_iff_not, Bool.not_eq_true', Bool.not_eq_false', Bool.and_eq_true, Bool.not_eq_true, Bool.not_eq_false] at hc23
    refine wp_skip ?_
    refine then_n ?_
    refine wp_seq ?_
    refine reg ?_
    refine plain (y_build rfl z_zeroN50 z_places50 rfl (lay_1 (off := 5) (n := 72) rfl (q_len_c8b32b32 (by assumption) (by assumption)) (by decide) q_spl_c8b32b32_5_c1 (lay_1 (off := 6) (n := 72) rfl (q_len_c8b32b32 (by assumption) (by assumption)) (by decide) q_spl_c8b32b32_6_c1 lay_n (by rfl)) (by rfl))) rfl rfl rfl H22 ?_
    clear H22; intro a24 H24
    refine st_callg rfl z_call52 rfl rfl rfl rfl H24 (show Calls Tryd.prog 52 #[.agg (Txs.Tx.cells Lane.awT).toArray, .int .i64 5] _ (Gives (.tuple #[.agg (Txs.Tx.cells Lane.awU).toArray, .int .i64 (Txs.hand Lane.awT 5).2]) [] _) from rhand Lane.awT Lane.awT_wf 5 ⟨by decide, by decide⟩ _) ?_
    clear H24; intro a25 wx25 H25
    refine plain (y_move rfl rfl) rfl rfl rfl H25 ?_
    clear H25; intro a26 H26
    refine plain (y_extract rfl rfl rfl) rfl rfl rfl H26 ?_
    clear H26; intro a27 H27
    refine plain (y_extract rfl rfl rfl) rfl rfl rfl H27 ?_
    clear H27; intro a28 H28
    refine st_alloc rfl z_zeroN50 rfl rfl rfl H28 ?_
    clear H28; intro b29 a29 wx29 H29
    refine st_storeN rfl z_size50 rfl rfl (agg_cells _) (by repeat (first | exact Uh | apply Ut)) (q_one_c8b32b32 rfl rfl rfl rfl rfl rfl rfl rfl) (q_len_c8b32b32 (by assumption) (by assumption)) (q_len_c8b32b32 (by assumption) (by assumption)) (q_spl_c8b32b32_0_c8b32b32 (by assumption) (by assumption) (by assumption) (by assumption)) (by decide) rfl rfl H29 ?_
    clear H29; intro wx30 H30
    refine plain (y_assign rfl rfl) rfl rfl rfl H30 ?_
    clear H30; intro a31 H31
    refine fin ?_
    refine then_n ?_
    refine wp_seq ?_
    refine reg ?_
    refine plain (y_move rfl rfl) rfl rfl rfl H31 ?_
    clear H31; intro a32 H32
    refine st_callg rfl z_call19 rfl rfl rfl rfl H32 (lround 10 25 (by decide) ⟨by decide, by decide⟩ b h u (H32.sep.all _ (by repeat (first | exact Mh | apply Mt)))) ?_
    clear H32; intro a33 wx33 H33
    refine plain (y_eql rfl rfl rfl) rfl rfl rfl H33 ?_
    clear H33; intro a34 H34
    refine plain (y_move rfl rfl) rfl rfl rfl H34 ?_
    clear H34; intro a35 H35
    have H37 := H35.know (d := 28) (v := .bool true) rfl (congrArg Value.bool (decide_eq_true (by first | exact Lane.aw_take | exact Lane.aw_againP | rfl)))
    clear H35
    refine plain (y_move rfl rfl) rfl rfl rfl H37 ?_
    clear H37; intro a38 H38
    refine plain (y_loadAB rfl z_agg50 z_size50 rfl (by repeat (first | exact Mh | apply Mt)) (q_ld_c8b32b32_0_72 (by assumption) (by assumption)) (q_len_c8b32b32 (by assumption) (by assumption))) rfl rfl rfl H38 ?_
    clear H38; intro a39 H39
    refine st_callk2 (is := [It.blk b 101 (Lane.lc 10 h u), It.mp h (Lane.hm Lane.awL.L), It.mp u (fun _ => none)]) (enters_call rfl z_call28 rfl) rfl rfl rfl H39 (.cons (by repeat (first | exact Ph | apply Pt)) (.cons (by repeat (first | exact Ph | apply Pt)) (.cons (by repeat (first | exact Ph | apply Pt)) (.nil _)))) (fun hs => ltake 10 Lane.awL.L (fun _ => none) Lane.aw_good Lane.aw_turns Lane.awU Lane.awU_wf 25 ⟨by decide, by decide⟩ b h u hs (hG.frm H39.sep.frm (by simp)) (fps_new H39.sep (.cons (by repeat (first | exact Ph | apply Pt)) (.cons (by repeat (first | exact Ph | apply Pt)) (.cons (by repeat (first | exact Ph | apply Pt)) (.nil _)))) hG (by decide))) ?_
    clear H39; intro v40 l40 a40 wx40 hf40 H40
    obtain ⟨rfl, f1, hT1, rfl⟩ := hf40
    simp only [List.cons_append, List.nil_append] at H40
    refine plain (y_eql rfl rfl rfl) rfl rfl rfl H40 ?_
    clear H40; intro a41 H41
    refine plain (y_pick_t rfl rfl rfl) rfl rfl rfl H41 ?_
    clear H41; intro a42 H42
    refine plain (y_move rfl rfl) rfl rfl rfl H42 ?_
    clear H42; intro a43 H43
    have H45 := H43.know (d := 34) (v := .bool true) rfl (congrArg Value.bool (decide_eq_true (by first | exact Lane.aw_take | exact Lane.aw_againP | rfl)))
    clear H43
    refine plain (y_move rfl rfl) rfl rfl rfl H45 ?_
    clear H45; intro a46 H46
    refine plain (y_loadAB rfl z_agg50 z_size50 rfl (by repeat (first | exact Mh | apply Mt)) (q_ld_c8b32b32_0_72 (by assumption) (by assumption)) (q_len_c8b32b32 (by assumption) (by assumption))) rfl rfl rfl H46 ?_
    clear H46; intro a47 H47
    refine st_callk2 (is := [It.blk b 101 (Lane.lc 10 h u), It.mp h (Lane.hm Lane.awL1), It.mp u f1]) (enters_call rfl z_call28 rfl) rfl rfl rfl H47 (.cons (by repeat (first | exact Ph | apply Pt)) (.cons (by repeat (first | exact Ph | apply Pt)) (.cons (by repeat (first | exact Ph | apply Pt)) (.nil _)))) (fun hs => ltake 10 Lane.awL1 f1 Lane.aw_good1 hT1 Lane.awU Lane.awU_wf 25 ⟨by decide, by decide⟩ b h u hs (hG.frm H47.sep.frm (by simp)) (fps_new H47.sep (.cons (by repeat (first | exact Ph | apply Pt)) (.cons (by repeat (first | exact Ph | apply Pt)) (.cons (by repeat (first | exact Ph | apply Pt)) (.nil _)))) hG (by decide))) ?_
    clear H47; intro v48 l48 a48 wx48 hf48 H48
    obtain ⟨rfl, f2, hT2, rfl⟩ := hf48
    simp only [List.cons_append, List.nil_append] at H48
    refine plain (y_eql rfl rfl rfl) rfl rfl rfl H48 ?_
    clear H48; intro a49 H49
    refine plain (y_pick_t rfl rfl rfl) rfl rfl rfl H49 ?_
    clear H49; intro a50 H50
    refine plain (y_move rfl rfl) rfl rfl rfl H50 ?_
    clear H50; intro a51 H51
    have H53 := H51.know (d := 40) (v := .bool true) rfl (congrArg Value.bool (decide_eq_true (by first | exact Lane.aw_take | exact Lane.aw_againP | rfl)))
    clear H51
    refine plain (y_move rfl rfl) rfl rfl rfl H53 ?_
    clear H53; intro a54 H54
    refine plain (y_loadAB rfl z_agg50 z_size50 rfl (by repeat (first | exact Mh | apply Mt)) (q_ld_c8b32b32_0_72 (by assumption) (by assumption)) (q_len_c8b32b32 (by assumption) (by assumption))) rfl rfl rfl H54 ?_
    clear H54; intro a55 H55
    refine st_callg rfl z_call27 rfl rfl rfl rfl H55 (lcheck 10 Lane.awL2 f2 Lane.aw_good2 hT2 Lane.awU Lane.awU_wf 30 ⟨by decide, by decide⟩ b h u (H55.sep.all _ (by repeat (first | exact Mh | apply Mt))) (H55.sep.all _ (by repeat (first | exact Mh | apply Mt))) (H55.sep.all _ (by repeat (first | exact Mh | apply Mt))) (hG.frm H55.sep.frm (by simp))) ?_
    clear H55; intro a56 wx56 H56
    refine plain (y_eql rfl rfl rfl) rfl rfl rfl H56 ?_
    clear H56; intro a57 H57
    refine plain (y_pick_t rfl rfl rfl) rfl rfl rfl H57 ?_
    clear H57; intro a58 H58
    refine plain (y_assign rfl rfl) rfl rfl rfl H58 ?_
    clear H58; intro a59 H59
    refine fin ?_
    refine then_n ?_
    refine wp_ret ?_
    -- return 1
    refine ret1 rfl H59 rfl ?_
    exact ⟨_, [], rfl, ⟨congrArg Value.bool (decide_eq_true Lane.aw_lateP), rfl⟩, H59.sep.sub (List.nil_sublist _)⟩

end Go.Proofs.YtaeahloenahelaaDoor.A_Ln4
