/- Part of a proof about given Go functions: contracts of functions, or plain laws. -/
import Derived.Test.YtbdkgmkaakoigaaS6
import Derived.Test.YtbdkgmkaakoigaaS5
import Derived.Test.YtbdkgmkaakoigaaS7
import Derived.Test.YtbdkgmkaakoigaaProg
import Derived.Test.YtbdkgmkaakoigaaW1
import Derived.Test.YtbdkgmkaakoigaaW2
set_option linter.unusedVariables false
set_option linter.unusedSimpArgs false
namespace Go.Proofs.Ytbdkgmkaakoigaa.P_Nx
open Go.Sx Go.RowKit Go.Proofs.Ytbdkgmkaakoigaa.P_K Go.Proofs.Ytbdkgmkaakoigaa.P_Tk

theorem z_zeroN38 : zeroL Try.prog 38 = some ((.int .i64 0 :: (.int .i64 0 :: (.int .i64 0 :: (.int .i64 0 :: (.string ⟨#[]⟩ :: (.bool false :: (.int .i64 0 :: (.int .i64 0 :: ((List.replicate 32 (0 : UInt8)).map u8 ++ ((List.replicate 32 (0 : UInt8)).map u8 ++ (.int .i64 0 :: (.int .i64 0 :: (.int .i64 0 :: (.int .i64 0 :: []))))))))))))))) := by kernel_rfl
theorem z_field63_1 : fieldB Try.prog 63 1 = some 1 := by kernel_rfl
theorem z_agg30 : aggB Try.prog 30 = some false := by kernel_rfl
theorem q_ix_c2_1 {a0 a1 : Value} : (a0 :: a1 :: [])[1]? = some a1 := (ix_c (o := 0) ix_0)
theorem z_size38 : sizeB Try.prog 38 = some 76 := by kernel_rfl
theorem z_agg38 : aggB Try.prog 38 = some true := by kernel_rfl
theorem q_one_c8b32b32c4 {a0 a1 a2 a3 a4 a5 a6 a7 a10 a11 a12 a13 : Value} {t8 t9 : List UInt8} (o0 : a0.oneCell' = true) (o1 : a1.oneCell' = true) (o2 : a2.oneCell' = true) (o3 : a3.oneCell' = true) (o4 : a4.oneCell' = true) (o5 : a5.oneCell' = true) (o6 : a6.oneCell' = true) (o7 : a7.oneCell' = true) (o10 : a10.oneCell' = true) (o11 : a11.oneCell' = true) (o12 : a12.oneCell' = true) (o13 : a13.oneCell' = true) : (a0 :: a1 :: a2 :: a3 :: a4 :: a5 :: a6 :: a7 :: (t8.map u8 ++ ((t9.map u8 ++ (a10 :: a11 :: a12 :: a13 :: []))))).all (·.oneCell') = true := (one_c o0 (one_c o1 (one_c o2 (one_c o3 (one_c o4 (one_c o5 (one_c o6 (one_c o7 (one_b (one_b (one_c o10 (one_c o11 (one_c o12 (one_c o13 one_n))))))))))))))
theorem q_len_c8b32b32c4 {a0 a1 a2 a3 a4 a5 a6 a7 a10 a11 a12 a13 : Value} {t8 t9 : List UInt8} (h8 : t8.length = 32) (h9 : t9.length = 32) : (a0 :: a1 :: a2 :: a3 :: a4 :: a5 :: a6 :: a7 :: (t8.map u8 ++ ((t9.map u8 ++ (a10 :: a11 :: a12 :: a13 :: []))))).length = 76 := (len_c (n := 75) (len_c (n := 74) (len_c (n := 73) (len_c (n := 72) (len_c (n := 71) (len_c (n := 70) (len_c (n := 69) (len_c (n := 68) (len_b (k := 32) (n := 36) h8 (len_b (k := 32) (n := 4) h9 (len_c (n := 3) (len_c (n := 2) (len_c (n := 1) (len_c (n := 0) len_n))))))))))))))
theorem q_spl_c8b32b32c4_0_c8b32b32c4 {a0 a1 a2 a3 a4 a5 a6 a7 a10 a11 a12 a13 : Value} {t8 t9 : List UInt8} {b0 b1 b2 b3 b4 b5 b6 b7 b10 b11 b12 b13 : Value} {s8 s9 : List UInt8} (h8 : t8.length = 32) (h9 : t9.length = 32) (g8 : s8.length = 32) (g9 : s9.length = 32) : spl (a0 :: a1 :: a2 :: a3 :: a4 :: a5 :: a6 :: a7 :: (t8.map u8 ++ ((t9.map u8 ++ (a10 :: a11 :: a12 :: a13 :: []))))) 0 (b0 :: b1 :: b2 :: b3 :: b4 :: b5 :: b6 :: b7 :: (s8.map u8 ++ ((s9.map u8 ++ (b10 :: b11 :: b12 :: b13 :: []))))) = b0 :: b1 :: b2 :: b3 :: b4 :: b5 :: b6 :: b7 :: (s8.map u8 ++ ((s9.map u8 ++ (b10 :: b11 :: b12 :: b13 :: [])))) := (spl_a (z := 76) (len_c (n := 75) (len_c (n := 74) (len_c (n := 73) (len_c (n := 72) (len_c (n := 71) (len_c (n := 70) (len_c (n := 69) (len_c (n := 68) (len_b (k := 32) (n := 36) h8 (len_b (k := 32) (n := 4) h9 (len_c (n := 3) (len_c (n := 2) (len_c (n := 1) (len_c (n := 0) len_n)))))))))))))) (len_c (n := 75) (len_c (n := 74) (len_c (n := 73) (len_c (n := 72) (len_c (n := 71) (len_c (n := 70) (len_c (n := 69) (len_c (n := 68) (len_b (k := 32) (n := 36) g8 (len_b (k := 32) (n := 4) g9 (len_c (n := 3) (len_c (n := 2) (len_c (n := 1) (len_c (n := 0) len_n)))))))))))))))
theorem z_field38_3 : fieldB Try.prog 38 3 = some 74 := by kernel_rfl
theorem z_agg3 : aggB Try.prog 3 = some false := by kernel_rfl
theorem q_ix_c8b32b32c4_74 {a0 a1 a2 a3 a4 a5 a6 a7 a10 a11 a12 a13 : Value} {t8 t9 : List UInt8} (h8 : t8.length = 32) (h9 : t9.length = 32) : (a0 :: a1 :: a2 :: a3 :: a4 :: a5 :: a6 :: a7 :: (t8.map u8 ++ ((t9.map u8 ++ (a10 :: a11 :: a12 :: a13 :: [])))))[74]? = some a12 := (ix_c (o := 73) (ix_c (o := 72) (ix_c (o := 71) (ix_c (o := 70) (ix_c (o := 69) (ix_c (o := 68) (ix_c (o := 67) (ix_c (o := 66) (ix_b (k := 32) (o := 34) h8 rfl (ix_b (k := 32) (o := 2) h9 rfl (ix_c (o := 1) (ix_c (o := 0) ix_0))))))))))))
theorem z_field38_0 : fieldB Try.prog 38 0 = some 0 := by kernel_rfl
theorem z_field36_1 : fieldB Try.prog 36 1 = some 1 := by kernel_rfl
theorem q_ix_c8b32b32c4_1 {a0 a1 a2 a3 a4 a5 a6 a7 a10 a11 a12 a13 : Value} {t8 t9 : List UInt8} : (a0 :: a1 :: a2 :: a3 :: a4 :: a5 :: a6 :: a7 :: (t8.map u8 ++ ((t9.map u8 ++ (a10 :: a11 :: a12 :: a13 :: [])))))[1]? = some a1 := (ix_c (o := 0) ix_0)
theorem z_field36_0 : fieldB Try.prog 36 0 = some 0 := by kernel_rfl
theorem q_ix_c8b32b32c4_0 {a0 a1 a2 a3 a4 a5 a6 a7 a10 a11 a12 a13 : Value} {t8 t9 : List UInt8} : (a0 :: a1 :: a2 :: a3 :: a4 :: a5 :: a6 :: a7 :: (t8.map u8 ++ ((t9.map u8 ++ (a10 :: a11 :: a12 :: a13 :: [])))))[0]? = some a0 := ix_0
theorem q_ld_c8b32b32c4_0_76 {a0 a1 a2 a3 a4 a5 a6 a7 a10 a11 a12 a13 : Value} {t8 t9 : List UInt8} (h8 : t8.length = 32) (h9 : t9.length = 32) : ((a0 :: a1 :: a2 :: a3 :: a4 :: a5 :: a6 :: a7 :: (t8.map u8 ++ ((t9.map u8 ++ (a10 :: a11 :: a12 :: a13 :: []))))).drop 0).take 76 = a0 :: a1 :: a2 :: a3 :: a4 :: a5 :: a6 :: a7 :: (t8.map u8 ++ ((t9.map u8 ++ (a10 :: a11 :: a12 :: a13 :: [])))) := (ld_a (len_c (n := 75) (len_c (n := 74) (len_c (n := 73) (len_c (n := 72) (len_c (n := 71) (len_c (n := 70) (len_c (n := 69) (len_c (n := 68) (len_b (k := 32) (n := 36) h8 (len_b (k := 32) (n := 4) h9 (len_c (n := 3) (len_c (n := 2) (len_c (n := 1) (len_c (n := 0) len_n)))))))))))))))
theorem z_call33 : callB Try.prog 33 = true := by kernel_rfl
theorem z_call32 : callB Try.prog 32 = true := by kernel_rfl
theorem z_places38 : placesB Try.prog 38 = some [(0, 72), (72, 1), (73, 1), (74, 1), (75, 1)] := by kernel_rfl
theorem z_call28 : callB Try.prog 28 = true := by kernel_rfl
theorem z_field38_4 : fieldB Try.prog 38 4 = some 75 := by kernel_rfl
theorem q_ix_c8b32b32c4_75 {a0 a1 a2 a3 a4 a5 a6 a7 a10 a11 a12 a13 : Value} {t8 t9 : List UInt8} (h8 : t8.length = 32) (h9 : t9.length = 32) : (a0 :: a1 :: a2 :: a3 :: a4 :: a5 :: a6 :: a7 :: (t8.map u8 ++ ((t9.map u8 ++ (a10 :: a11 :: a12 :: a13 :: [])))))[75]? = some a13 := (ix_c (o := 74) (ix_c (o := 73) (ix_c (o := 72) (ix_c (o := 71) (ix_c (o := 70) (ix_c (o := 69) (ix_c (o := 68) (ix_c (o := 67) (ix_b (k := 32) (o := 35) h8 rfl (ix_b (k := 32) (o := 3) h9 rfl (ix_c (o := 2) (ix_c (o := 1) (ix_c (o := 0) ix_0)))))))))))))
theorem z_size3 : sizeB Try.prog 3 = some 1 := by kernel_rfl

set_option maxRecDepth 100000 in
set_option maxHeartbeats 8000000 in
theorem pnext (L : List Pool.Wait) (hL : Pool.Wfs L) (size : Int) (bp : Nat) (v : Value) (hlen : L.length ≤ 1000) (hg : Pool.Good ⟨size, L⟩) (nx : List Int) (now : Int) (fc : FuncId) (cp : Value) {w : World} (hs : Sep (fps [It.row 38 76 v L.length (Pool.wc L), It.blk bp 63 [i64 size, v]]) w w [It.row 38 76 v L.length (Pool.wc L), It.blk bp 63 [i64 size, v]]) (hcb : callB Try.prog fc = true) (hf : ∀ w' : World, Frm (fps [It.row 38 76 v L.length (Pool.wc L), It.blk bp 63 [i64 size, v]]) w w' → ∀ q : Int, 0 ≤ q ∧ q ≤ 63 → Calls Try.prog fc ([.int .i64 q, cp] : List Value).toArray w' (Gives (.int .i64 (nx.getD q.toNat 0)) [] w')) : Calls Try.prog 15 #[.pointer (some ⟨bp, 0, none⟩), .int .i64 now, .func (.func fc) ([] : List Value).toArray [cp].toArray] w (Post (fps [It.row 38 76 v L.length (Pool.wc L), It.blk bp 63 [i64 size, v]]) w fun u l' => u = .tuple #[.agg (Pool.Wait.cells (Pool.next ⟨size, L⟩ nx now).2.1).toArray, .bool (Pool.next ⟨size, L⟩ nx now).2.2] ∧ ∃ v', l' = [It.row 38 76 v' (Pool.next ⟨size, L⟩ nx now).1.L.length (Pool.wc (Pool.next ⟨size, L⟩ nx now).1.L), It.blk bp 63 [i64 size, v']]) := by
  obtain ⟨A, cc, rfl, hRx, hmx⟩ := row_shape (v := v) hs (by repeat (first | exact Mh | apply Mt))
  have hcap := row_cap (A := A) (c := cc) hs (by repeat (first | exact Mh | apply Mt))
  have lz32 : (List.replicate 32 (0 : UInt8)).length = 32 := List.length_replicate
  refine enterL (args := [.pointer (some ⟨bp, 0, none⟩), .int .i64 now, .func (.func fc) ([] : List Value).toArray [cp].toArray]) Try.func15 rfl rfl (l := [It.row 38 76 (.slice A L.length cc) L.length (Pool.wc L), It.blk bp 63 [i64 size, (.slice A L.length cc)]]) hs ?_
  intro a0 H0
  refine wp_seq ?_
  refine reg ?_
  refine st_alloc rfl z_zeroN38 rfl rfl rfl H0 ?_
  clear H0; intro b1 a1 wx1 H1
  refine plain (y_assign rfl rfl) rfl rfl rfl H1 ?_
  clear H1; intro a2 H2
  refine fin ?_
  refine then_n ?_
  refine wp_seq ?_
  refine wp_seq ?_
  refine reg ?_
  refine plain (y_move rfl rfl) rfl rfl rfl H2 ?_
  clear H2; intro a3 H3
  refine plain (y_peql rfl Try.underlying24 rfl rfl) rfl rfl rfl H3 ?_
  clear H3; intro a4 H4
  refine plain (y_move rfl rfl) rfl rfl rfl H4 ?_
  clear H4; intro a5 H5
  have H7 := H5.know (d := 16) (v := .bool false) rfl (rfl)
  clear H5
  refine plain (y_move rfl rfl) rfl rfl rfl H7 ?_
  clear H7; intro a8 H8
  refine plain ((by first | exact y_fyeql rfl Try.underlying47 rfl rfl | exact y_fneql rfl Try.underlying47 rfl rfl)) rfl rfl rfl H8 ?_
  clear H8; intro a9 H9
  refine plain (y_pick_f rfl rfl rfl) rfl rfl rfl H9 ?_
  clear H9; intro a10 H10
  refine fin ?_
  refine then_n ?_
  refine cnd_f H10 rfl ?_
  refine wp_skip ?_
  refine then_n ?_
  refine wp_seq ?_
  refine reg ?_
  refine plain (y_assign rfl rfl) rfl rfl rfl H10 ?_
  clear H10; intro a12 H12
  refine fin ?_
  refine then_n ?_
  refine wp_seq ?_
  refine wp_seq ?_
  refine reg ?_
  refine plain (y_move rfl rfl) rfl rfl rfl H12 ?_
  clear H12; intro a13 H13
  refine plain (y_nilCheck rfl rfl) rfl rfl rfl H13 ?_
  clear H13; intro a14 H14
  refine plain (y_fieldB rfl z_field63_1 rfl (by first | (simp only [Nat.zero_add, Nat.add_zero, Nat.reduceAdd]; rfl) | rfl)) rfl rfl rfl H14 ?_
  clear H14; intro a15 H15
  refine plain (y_loadB rfl z_agg30 rfl (by repeat (first | exact Mh | apply Mt)) q_ix_c2_1) rfl rfl rfl H15 ?_
  clear H15; intro a16 H16
  refine plain (y_len rfl Try.underlying30 rfl) rfl rfl rfl H16 ?_
  clear H16; intro a17 H17
  refine plain (y_move rfl rfl) rfl rfl rfl H17 ?_
  clear H17; intro a18 H18
  refine fin ?_
  refine then_n ?_
  refine wp_block ?_
  refine loop (ι := Nat) (fun k => [(0, .pointer (some ⟨bp, 0, none⟩)), (1, .int .i64 now), (2, .func (.func fc) ([] : List Value).toArray [cp].toArray), (6, .pointer (some ⟨b1, 0, none⟩)), (7, .bool false), (8, .int .i64 (Pool.pickI (Pool.pick L nx now k))), (24, (.slice A L.length cc)), (25, .int .i64 (L.length : Int)), (26, .int .i64 (k : Int))]) (fun k => [It.blk b1 38 (Pool.Wait.cells Pool.Wait.zero), It.row 38 76 (.slice A L.length cc) L.length (Pool.wc L), It.blk bp 63 [i64 size, (.slice A L.length cc)]]) (fun k => k ≤ L.length) (fun k => L.length - k) (0) (Nat.zero_le _) (H18.weak ⟨rfl, rfl, rfl, rfl, rfl, rfl, rfl, rfl, rfl, trivial⟩ rfl) ?_
  clear H18; intro k a19 wx19 hok19 H19
  have hok := hok19
  refine wp_seq ?_
  refine reg ?_
  refine plain (y_lss rfl rfl rfl) rfl rfl rfl H19 ?_
  clear H19; intro a20 H20
  refine fin ?_
  refine then_n ?_
  refine wp_seq ?_
  refine cnd H20 rfl (fun hc21 => ?_) (fun hc21 => ?_) -- cond 2
  · skip
    try simp only [decide_eq_true_eq, decide_eq_false_iff_not, Bool.not_eq_true', Bool.not_eq_false', Bool.and_eq_true, Bool.not_eq_true, Bool.not_eq_false] at hc21
    refine wp_skip ?_
    refine then_n ?_
    refine wp_seq ?_
    refine wp_block ?_
    refine wp_seq ?_
    have hkl : k < L.length := by omega
    have hwk := hL.at_ hkl
    have whd := hwk.tx.hand
    have wtg := hwk.tx.tag
    have hri : Pool.right (L.getD k Pool.Wait.zero) := hg.right _ (Pool.mem_getD (L := L) hkl)
    have hsrc := Pool.src_ok hri
    have hpi := Pool.pickI_in (L := L) (nx := nx) (now := now) k
    have hwp : ¬ (Pool.pickI (Pool.pick L nx now k)) < 0 → Pool.Wait.Wf (L.getD (Pool.pickI (Pool.pick L nx now k)).toNat Pool.Wait.zero) ∧ Pool.right (L.getD (Pool.pickI (Pool.pick L nx now k)).toNat Pool.Wait.zero) := fun hz => ⟨hL.at_ (by omega), hg.right _ (Pool.mem_getD (L := L) (by omega))⟩
    refine reg ?_
    refine plain (y_move rfl rfl) rfl rfl rfl H20 ?_
    clear H20; intro a22 H22
    refine plain (y_ixR rfl Try.underlying30 z_size38 rfl rfl (by omega) (by omega) (rd_row (by repeat (first | exact Mh | apply Mt))) (by first | (rw [Pool.wc_len hL]; omega) | (rw [Pool.wc_len (hE.rz hwj _), Pool.rz_len]; omega) | (rw [spl_len (by rw [Pool.wc_len (hE.rz hwj k), Pool.rz_len]; show _ + 1 ≤ _; omega), Pool.wc_len (hE.rz hwj k), Pool.rz_len]; omega))) rfl rfl rfl H22 ?_
    clear H22; intro a23 H23
    refine plain (y_loadAS rfl z_agg38 z_size38 rfl (rd_row (by repeat (first | exact Mh | apply Mt))) (show _ = Pool.Wait.cells (L.getD k Pool.Wait.zero) from Pool.wc_take hL k hkl) hwk.len (by decide)) rfl rfl rfl H23 ?_
    clear H23; intro a24 H24
    refine st_alloc rfl z_zeroN38 rfl rfl rfl H24 ?_
    clear H24; intro b25 a25 wx25 H25
    refine plain (y_assign rfl rfl) rfl rfl rfl H25 ?_
    clear H25; intro a26 H26
    refine st_storeN rfl z_size38 rfl rfl (agg_cells _) (by repeat (first | exact Uh | apply Ut)) (q_one_c8b32b32c4 rfl rfl rfl rfl rfl rfl rfl rfl rfl rfl rfl rfl) (q_len_c8b32b32c4 (by assumption) (by assumption)) (q_len_c8b32b32c4 (by assumption) (by assumption)) (q_spl_c8b32b32c4_0_c8b32b32c4 (by assumption) (by assumption) (by assumption) (by assumption)) (by decide) rfl rfl H26 ?_
    clear H26; intro wx27 H27
    refine fin ?_
    refine then_n ?_
    refine wp_seq ?_
    refine qreg (by kernel_rfl) (by kernel_rfl) H27 ?_
    have F28 := H27.fr
    clear H27
    refine qplain (y_fieldB rfl z_field38_3 rfl (by first | (simp only [Nat.zero_add, Nat.add_zero, Nat.reduceAdd]; rfl) | rfl)) rfl rfl rfl F28 ?_
    clear F28; intro a29 H29
    refine qplain (y_loadB rfl z_agg3 rfl (by repeat (first | exact Mh | apply Mt)) (q_ix_c8b32b32c4_74 (by assumption) (by assumption))) rfl rfl rfl H29 ?_
    clear H29; intro a30 H30
    refine qplain (y_move rfl rfl) rfl rfl rfl H30 ?_
    clear H30; intro a31 H31
    refine qplain (y_leq rfl rfl rfl) rfl rfl rfl H31 ?_
    clear H31; intro a32 H32
    refine qplain (y_move rfl rfl) rfl rfl rfl H32 ?_
    clear H32; intro a33 H33
    refine qpart (d := 35) H33 rfl (fun hg34 => ?_) (fun hg34 => ?_)
    · first
      | fail
      | skip
        clear H33; intro H35
        try simp only [decide_eq_true_eq, decide_eq_false_iff_not, Bool.not_eq_true', Bool.not_eq_false', Bool.and_eq_true, Bool.not_eq_true, Bool.not_eq_false] at hg34
        refine qplain (y_fieldB rfl z_field38_0 rfl (by first | (simp only [Nat.zero_add, Nat.add_zero, Nat.reduceAdd]; rfl) | rfl)) rfl rfl rfl H35 ?_
        clear H35; intro a36 H36
        refine qplain (y_fieldB rfl z_field36_1 rfl (by first | (simp only [Nat.zero_add, Nat.add_zero, Nat.reduceAdd]; rfl) | rfl)) rfl rfl rfl H36 ?_
        clear H36; intro a37 H37
        refine qplain (y_loadB rfl z_agg3 rfl (by repeat (first | exact Mh | apply Mt)) q_ix_c8b32b32c4_1) rfl rfl rfl H37 ?_
        clear H37; intro a38 H38
        refine qplain (y_move rfl rfl) rfl rfl rfl H38 ?_
        clear H38; intro a39 H39
        refine qplain (y_fieldB rfl z_field38_0 rfl (by first | (simp only [Nat.zero_add, Nat.add_zero, Nat.reduceAdd]; rfl) | rfl)) rfl rfl rfl H39 ?_
        clear H39; intro a40 H40
        refine qplain (y_fieldB rfl z_field36_0 rfl (by first | (simp only [Nat.zero_add, Nat.add_zero, Nat.reduceAdd]; rfl) | rfl)) rfl rfl rfl H40 ?_
        clear H40; intro a41 H41
        refine qplain (y_loadB rfl z_agg3 rfl (by repeat (first | exact Mh | apply Mt)) q_ix_c8b32b32c4_0) rfl rfl rfl H41 ?_
        clear H41; intro a42 H42
        refine qcallv (enters_callv (all := [.int .i64 (L.getD k Pool.Wait.zero).tx.src, cp]) rfl rfl hcb rfl rfl) rfl rfl rfl H42 (fun w hs => (hf _ hs.frm (L.getD k Pool.Wait.zero).tx.src hsrc)) ?_
        clear H42; intro a43 H43
        refine qplain (y_eql rfl rfl rfl) rfl rfl rfl H43 ?_
        clear H43; intro a44 H44
        refine qplain (y_pick_t rfl rfl rfl) rfl rfl rfl H44 ?_
        clear H44; intro a45 H45
        refine qplain (y_move rfl rfl) rfl rfl rfl H45 ?_
        clear H45; intro a46 H46
        refine qpart (d := 46) H46 rfl (fun hg47 => ?_) (fun hg47 => ?_)
        · first
          | fail
          | skip
            clear H46; intro H48
            try simp only [decide_eq_true_eq, decide_eq_false_iff_not, Bool.not_eq_true', Bool.not_eq_false', Bool.and_eq_true, Bool.not_eq_true, Bool.not_eq_false] at hg47
            refine qplain (y_move rfl rfl) rfl rfl rfl H48 ?_
            clear H48; intro a49 H49
            refine qplain (y_lss rfl rfl rfl) rfl rfl rfl H49 ?_
            clear H49; intro a50 H50
            refine qplain (y_move rfl rfl) rfl rfl rfl H50 ?_
            clear H50; intro a51 H51
            refine qpart (d := 49) H51 rfl (fun hg52 => ?_) (fun hg52 => ?_)
            · first
              | fail
              | skip
                clear H51; intro H53
                try simp only [decide_eq_true_eq, decide_eq_false_iff_not, Bool.not_eq_true', Bool.not_eq_false', Bool.and_eq_true, Bool.not_eq_true, Bool.not_eq_false] at hg52
                refine qskip rfl rfl rfl H53 ?_
                clear H53; intro a54 H54
                refine qskip rfl rfl rfl H54 ?_
                clear H54; intro a55 H55
                refine qskip rfl rfl rfl H55 ?_
                clear H55; intro a56 H56
                refine qskip rfl rfl rfl H56 ?_
                clear H56; intro a57 H57
                refine qskip rfl rfl rfl H57 ?_
                clear H57; intro a58 H58
                refine qskip rfl rfl rfl H58 ?_
                clear H58; intro a59 H59
                refine qskip rfl rfl rfl H59 ?_
                clear H59; intro a60 H60
                refine qskip rfl rfl rfl H60 ?_
                clear H60; intro a61 H61
                refine qskip rfl rfl rfl H61 ?_
                clear H61; intro a62 H62
                refine qskip rfl rfl rfl H62 ?_
                clear H62; intro a63 H63
                refine qskip rfl rfl rfl H63 ?_
                clear H63; intro a64 H64
                refine qplain (y_pick_t rfl rfl rfl) rfl rfl rfl H64 ?_
                clear H64; intro a65 H65
                refine qplain (y_pick_t rfl rfl rfl) rfl rfl rfl H65 ?_
                clear H65; intro a66 H66
                refine qfin H66 ?_
                clear H66; intro wx67 H67
                refine then_n ?_
                refine cnd_t H67 rfl ?_
                have isYes := True.intro
                refine reg ?_
                refine plain (y_move rfl rfl) rfl rfl rfl H67 ?_
                clear H67; intro a69 H69
                refine plain (y_assign rfl rfl) rfl rfl rfl H69 ?_
                clear H69; intro a70 H70
                refine fin ?_
                refine inb_n ?_
                refine then_n ?_
                refine reg ?_
                refine plain (y_add rfl rfl rfl (by first | exact w64 (by omega) (by omega) | rfl)) rfl rfl rfl H70 ?_
                clear H70; intro a71 H71
                refine plain (y_move rfl rfl) rfl rfl rfl H71 ?_
                clear H71; intro a72 H72
                refine fin ?_
                refine then_n ?_
                first | (have hz := isYes; refine ⟨k + 1, by omega, by omega, (H72.drop (List.Sublist.cons _ (List.Sublist.refl _))).weak ⟨rfl, rfl, rfl, rfl, rfl, fi rfl (by rw [Pool.pick_y ⟨by assumption, by assumption⟩ (by first | exact .inl (by assumption) | exact .inr (by assumption))]), rfl, rfl, fi rfl (by omega), trivial⟩ rfl⟩) | (refine ⟨k + 1, by omega, by omega, (H72.drop (List.Sublist.cons _ (List.Sublist.refl _))).weak ⟨rfl, rfl, rfl, rfl, rfl, fi rfl (by rw [Pool.pick_n (by rintro ⟨⟨a, b⟩, c⟩; first | contradiction | (rcases c with c | c <;> first | contradiction | omega))]), rfl, rfl, fi rfl (by omega), trivial⟩ rfl⟩)
            · first
              | fail
              | skip
                clear H51; intro H73
                try simp only [decide_eq_true_eq, decide_eq_false_iff_not, Bool.not_eq_true', Bool.not_eq_false', Bool.and_eq_true, Bool.not_eq_true, Bool.not_eq_false] at hg52
                refine qplain (y_loadAB rfl z_agg38 z_size38 rfl (by repeat (first | exact Mh | apply Mt)) (q_ld_c8b32b32c4_0_76 (by assumption) (by assumption)) (q_len_c8b32b32c4 (by assumption) (by assumption))) rfl rfl rfl H73 ?_
                clear H73; intro a74 H74
                refine qcallg rfl z_call33 rfl rfl rfl rfl H74 (fun w hs => (pkey _ (by first | assumption | exact (hwp (by assumption)).1) _)) ?_
                clear H74; intro a75 H75
                refine qplain (y_move rfl rfl) rfl rfl rfl H75 ?_
                clear H75; intro a76 H76
                refine qplain (y_nilCheck rfl rfl) rfl rfl rfl H76 ?_
                clear H76; intro a77 H77
                refine qplain (y_fieldB rfl z_field63_1 rfl (by first | (simp only [Nat.zero_add, Nat.add_zero, Nat.reduceAdd]; rfl) | rfl)) rfl rfl rfl H77 ?_
                clear H77; intro a78 H78
                refine qplain (y_loadB rfl z_agg30 rfl (by repeat (first | exact Mh | apply Mt)) q_ix_c2_1) rfl rfl rfl H78 ?_
                clear H78; intro a79 H79
                refine qplain (y_move rfl rfl) rfl rfl rfl H79 ?_
                clear H79; intro a80 H80
                refine qplain (y_ixR rfl Try.underlying30 z_size38 rfl rfl (by omega) (by omega) (rd_row (by repeat (first | exact Mh | apply Mt))) (by first | (rw [Pool.wc_len hL]; omega) | (rw [Pool.wc_len (hE.rz hwj _), Pool.rz_len]; omega) | (rw [spl_len (by rw [Pool.wc_len (hE.rz hwj k), Pool.rz_len]; show _ + 1 ≤ _; omega), Pool.wc_len (hE.rz hwj k), Pool.rz_len]; omega))) rfl rfl rfl H80 ?_
                clear H80; intro a81 H81
                refine qplain (y_loadAS rfl z_agg38 z_size38 rfl (rd_row (by repeat (first | exact Mh | apply Mt))) (show _ = Pool.Wait.cells (L.getD (Pool.pickI (Pool.pick L nx now k)).toNat Pool.Wait.zero) from Pool.wc_take hL _ (by omega)) (hwp (by assumption)).1.len (by decide)) rfl rfl rfl H81 ?_
                clear H81; intro a82 H82
                refine qcallg rfl z_call33 rfl rfl rfl rfl H82 (fun w hs => (pkey _ (by first | assumption | exact (hwp (by assumption)).1) _)) ?_
                clear H82; intro a83 H83
                refine qcallg rfl z_call32 rfl rfl rfl rfl H83 (fun w hs => (pbelow (L.getD k Pool.Wait.zero) (L.getD (Pool.pickI (Pool.pick L nx now k)).toNat Pool.Wait.zero) hri.2.2.2 (hwp (by assumption)).2.2.2.2 _)) ?_
                clear H83; intro a84 H84
                refine qplain (y_pick_f rfl rfl rfl) rfl rfl rfl H84 ?_
                clear H84; intro a85 H85
                refine qplain (y_pick_t rfl rfl rfl) rfl rfl rfl H85 ?_
                clear H85; intro a86 H86
                refine qfin H86 ?_
                clear H86; intro wx87 H87
                refine then_n ?_
                refine cnd H87 rfl (fun hc88 => ?_) (fun hc88 => ?_) -- cond 4
                · skip
                  try simp only [decide_eq_true_eq, decide_eq_false_iff_not, Bool.not_eq_true', Bool.not_eq_false', Bool.and_eq_true, Bool.not_eq_true, Bool.not_eq_false] at hc88
                  have isYes := True.intro
                  refine reg ?_
                  refine plain (y_move rfl rfl) rfl rfl rfl H87 ?_
                  clear H87; intro a89 H89
                  refine plain (y_assign rfl rfl) rfl rfl rfl H89 ?_
                  clear H89; intro a90 H90
                  refine fin ?_
                  refine inb_n ?_
                  refine then_n ?_
                  refine reg ?_
                  refine plain (y_add rfl rfl rfl (by first | exact w64 (by omega) (by omega) | rfl)) rfl rfl rfl H90 ?_
                  clear H90; intro a91 H91
                  refine plain (y_move rfl rfl) rfl rfl rfl H91 ?_
                  clear H91; intro a92 H92
                  refine fin ?_
                  refine then_n ?_
                  first | (have hz := isYes; refine ⟨k + 1, by omega, by omega, (H92.drop (List.Sublist.cons _ (List.Sublist.refl _))).weak ⟨rfl, rfl, rfl, rfl, rfl, fi rfl (by rw [Pool.pick_y ⟨by assumption, by assumption⟩ (by first | exact .inl (by assumption) | exact .inr (by assumption))]), rfl, rfl, fi rfl (by omega), trivial⟩ rfl⟩) | (refine ⟨k + 1, by omega, by omega, (H92.drop (List.Sublist.cons _ (List.Sublist.refl _))).weak ⟨rfl, rfl, rfl, rfl, rfl, fi rfl (by rw [Pool.pick_n (by rintro ⟨⟨a, b⟩, c⟩; first | contradiction | (rcases c with c | c <;> first | contradiction | omega))]), rfl, rfl, fi rfl (by omega), trivial⟩ rfl⟩)
                · skip
                  try simp only [decide_eq_true_eq, decide_eq_false_iff_not, Bool.not_eq_true', Bool.not_eq_false', Bool.and_eq_true, Bool.not_eq_true, Bool.not_eq_false] at hc88
                  refine wp_skip ?_
                  refine inb_n ?_
                  refine then_n ?_
                  refine reg ?_
                  refine plain (y_add rfl rfl rfl (by first | exact w64 (by omega) (by omega) | rfl)) rfl rfl rfl H87 ?_
                  clear H87; intro a93 H93
                  refine plain (y_move rfl rfl) rfl rfl rfl H93 ?_
                  clear H93; intro a94 H94
                  refine fin ?_
                  refine then_n ?_
                  first | (have hz := isYes; refine ⟨k + 1, by omega, by omega, (H94.drop (List.Sublist.cons _ (List.Sublist.refl _))).weak ⟨rfl, rfl, rfl, rfl, rfl, fi rfl (by rw [Pool.pick_y ⟨by assumption, by assumption⟩ (by first | exact .inl (by assumption) | exact .inr (by assumption))]), rfl, rfl, fi rfl (by omega), trivial⟩ rfl⟩) | (refine ⟨k + 1, by omega, by omega, (H94.drop (List.Sublist.cons _ (List.Sublist.refl _))).weak ⟨rfl, rfl, rfl, rfl, rfl, fi rfl (by rw [Pool.pick_n (by rintro ⟨⟨a, b⟩, c⟩; first | contradiction | (rcases c with c | c <;> first | contradiction | omega))]), rfl, rfl, fi rfl (by omega), trivial⟩ rfl⟩)
        · first
          | fail
          | skip
            clear H46; intro H95
            try simp only [decide_eq_true_eq, decide_eq_false_iff_not, Bool.not_eq_true', Bool.not_eq_false', Bool.and_eq_true, Bool.not_eq_true, Bool.not_eq_false] at hg47
            refine qskip rfl rfl rfl H95 ?_
            clear H95; intro a96 H96
            refine qskip rfl rfl rfl H96 ?_
            clear H96; intro a97 H97
            refine qskip rfl rfl rfl H97 ?_
            clear H97; intro a98 H98
            refine qskip rfl rfl rfl H98 ?_
            clear H98; intro a99 H99
            refine qskip rfl rfl rfl H99 ?_
            clear H99; intro a100 H100
            refine qskip rfl rfl rfl H100 ?_
            clear H100; intro a101 H101
            refine qskip rfl rfl rfl H101 ?_
            clear H101; intro a102 H102
            refine qskip rfl rfl rfl H102 ?_
            clear H102; intro a103 H103
            refine qskip rfl rfl rfl H103 ?_
            clear H103; intro a104 H104
            refine qskip rfl rfl rfl H104 ?_
            clear H104; intro a105 H105
            refine qskip rfl rfl rfl H105 ?_
            clear H105; intro a106 H106
            refine qskip rfl rfl rfl H106 ?_
            clear H106; intro a107 H107
            refine qskip rfl rfl rfl H107 ?_
            clear H107; intro a108 H108
            refine qskip rfl rfl rfl H108 ?_
            clear H108; intro a109 H109
            refine qskip rfl rfl rfl H109 ?_
            clear H109; intro a110 H110
            refine qplain (y_pick_f rfl rfl rfl) rfl rfl rfl H110 ?_
            clear H110; intro a111 H111
            refine qfin H111 ?_
            clear H111; intro wx112 H112
            refine then_n ?_
            refine cnd_f H112 rfl ?_
            refine wp_skip ?_
            refine inb_n ?_
            refine then_n ?_
            refine reg ?_
            refine plain (y_add rfl rfl rfl (by first | exact w64 (by omega) (by omega) | rfl)) rfl rfl rfl H112 ?_
            clear H112; intro a114 H114
            refine plain (y_move rfl rfl) rfl rfl rfl H114 ?_
            clear H114; intro a115 H115
            refine fin ?_
            refine then_n ?_
            first | (have hz := isYes; refine ⟨k + 1, by omega, by omega, (H115.drop (List.Sublist.cons _ (List.Sublist.refl _))).weak ⟨rfl, rfl, rfl, rfl, rfl, fi rfl (by rw [Pool.pick_y ⟨by assumption, by assumption⟩ (by first | exact .inl (by assumption) | exact .inr (by assumption))]), rfl, rfl, fi rfl (by omega), trivial⟩ rfl⟩) | (refine ⟨k + 1, by omega, by omega, (H115.drop (List.Sublist.cons _ (List.Sublist.refl _))).weak ⟨rfl, rfl, rfl, rfl, rfl, fi rfl (by rw [Pool.pick_n (by rintro ⟨⟨a, b⟩, c⟩; first | contradiction | (rcases c with c | c <;> first | contradiction | omega))]), rfl, rfl, fi rfl (by omega), trivial⟩ rfl⟩)
    · first
      | fail
      | skip
        clear H33; intro H116
        try simp only [decide_eq_true_eq, decide_eq_false_iff_not, Bool.not_eq_true', Bool.not_eq_false', Bool.and_eq_true, Bool.not_eq_true, Bool.not_eq_false] at hg34
        refine qskip rfl rfl rfl H116 ?_
        clear H116; intro a117 H117
        refine qskip rfl rfl rfl H117 ?_
        clear H117; intro a118 H118
        refine qskip rfl rfl rfl H118 ?_
        clear H118; intro a119 H119
        refine qskip rfl rfl rfl H119 ?_
        clear H119; intro a120 H120
        refine qskip rfl rfl rfl H120 ?_
        clear H120; intro a121 H121
        refine qskip rfl rfl rfl H121 ?_
        clear H121; intro a122 H122
        refine qskip rfl rfl rfl H122 ?_
        clear H122; intro a123 H123
        refine qskip rfl rfl rfl H123 ?_
        clear H123; intro a124 H124
        refine qskip rfl rfl rfl H124 ?_
        clear H124; intro a125 H125
        refine qplain (y_pick_f rfl rfl rfl) rfl rfl rfl H125 ?_
        clear H125; intro a126 H126
        refine qplain (y_move rfl rfl) rfl rfl rfl H126 ?_
        clear H126; intro a127 H127
        refine qskip rfl rfl rfl H127 ?_
        clear H127; intro a128 H128
        refine qskip rfl rfl rfl H128 ?_
        clear H128; intro a129 H129
        refine qskip rfl rfl rfl H129 ?_
        clear H129; intro a130 H130
        refine qskip rfl rfl rfl H130 ?_
        clear H130; intro a131 H131
        refine qskip rfl rfl rfl H131 ?_
        clear H131; intro a132 H132
        refine qskip rfl rfl rfl H132 ?_
        clear H132; intro a133 H133
        refine qskip rfl rfl rfl H133 ?_
        clear H133; intro a134 H134
        refine qskip rfl rfl rfl H134 ?_
        clear H134; intro a135 H135
        refine qskip rfl rfl rfl H135 ?_
        clear H135; intro a136 H136
        refine qskip rfl rfl rfl H136 ?_
        clear H136; intro a137 H137
        refine qskip rfl rfl rfl H137 ?_
        clear H137; intro a138 H138
        refine qskip rfl rfl rfl H138 ?_
        clear H138; intro a139 H139
        refine qskip rfl rfl rfl H139 ?_
        clear H139; intro a140 H140
        refine qskip rfl rfl rfl H140 ?_
        clear H140; intro a141 H141
        refine qskip rfl rfl rfl H141 ?_
        clear H141; intro a142 H142
        refine qplain (y_pick_f rfl rfl rfl) rfl rfl rfl H142 ?_
        clear H142; intro a143 H143
        refine qfin H143 ?_
        clear H143; intro wx144 H144
        refine then_n ?_
        refine cnd_f H144 rfl ?_
        refine wp_skip ?_
        refine inb_n ?_
        refine then_n ?_
        refine reg ?_
        refine plain (y_add rfl rfl rfl (by first | exact w64 (by omega) (by omega) | rfl)) rfl rfl rfl H144 ?_
        clear H144; intro a146 H146
        refine plain (y_move rfl rfl) rfl rfl rfl H146 ?_
        clear H146; intro a147 H147
        refine fin ?_
        refine then_n ?_
        first | (have hz := isYes; refine ⟨k + 1, by omega, by omega, (H147.drop (List.Sublist.cons _ (List.Sublist.refl _))).weak ⟨rfl, rfl, rfl, rfl, rfl, fi rfl (by rw [Pool.pick_y ⟨by assumption, by assumption⟩ (by first | exact .inl (by assumption) | exact .inr (by assumption))]), rfl, rfl, fi rfl (by omega), trivial⟩ rfl⟩) | (refine ⟨k + 1, by omega, by omega, (H147.drop (List.Sublist.cons _ (List.Sublist.refl _))).weak ⟨rfl, rfl, rfl, rfl, rfl, fi rfl (by rw [Pool.pick_n (by rintro ⟨⟨a, b⟩, c⟩; first | contradiction | (rcases c with c | c <;> first | contradiction | omega))]), rfl, rfl, fi rfl (by omega), trivial⟩ rfl⟩)
  · skip
    try simp only [decide_eq_true_eq, decide_eq_false_iff_not, Bool.not_eq_true', Bool.not_eq_false', Bool.and_eq_true, Bool.not_eq_true, Bool.not_eq_false] at hc21
    refine wp_exit ?_
    refine then_x ?_
    refine then_x ?_
    refine inb_hit ?_
    refine then_n ?_
    refine wp_seq ?_
    refine wp_seq ?_
    obtain rfl : k = L.length := by omega
    refine reg ?_
    refine plain (y_move rfl rfl) rfl rfl rfl H20 ?_
    clear H20; intro a148 H148
    refine plain (y_lss rfl rfl rfl) rfl rfl rfl H148 ?_
    clear H148; intro a149 H149
    refine fin ?_
    refine then_n ?_
    refine cnd H149 rfl (fun hc150 => ?_) (fun hc150 => ?_) -- cond 7
    · skip
      try simp only [decide_eq_true_eq, decide_eq_false_iff_not, Bool.not_eq_true', Bool.not_eq_false', Bool.and_eq_true, Bool.not_eq_true, Bool.not_eq_false] at hc150
      have hnone := Pool.pick_end hc150
      refine wp_seq ?_
      refine reg ?_
      refine plain (y_build rfl z_zeroN38 z_places38 rfl lay_n) rfl rfl rfl H149 ?_
      clear H149; intro a151 H151
      refine st_storeN rfl z_size38 rfl rfl (agg_cells _) (by repeat (first | exact Uh | apply Ut)) (q_one_c8b32b32c4 rfl rfl rfl rfl rfl rfl rfl rfl rfl rfl rfl rfl) (q_len_c8b32b32c4 (by assumption) (by assumption)) (q_len_c8b32b32c4 (by assumption) (by assumption)) (q_spl_c8b32b32c4_0_c8b32b32c4 (by assumption) (by assumption) (by assumption) (by assumption)) (by decide) rfl rfl H151 ?_
      clear H151; intro wx152 H152
      refine plain (y_assign rfl rfl) rfl rfl rfl H152 ?_
      clear H152; intro a153 H153
      refine fin ?_
      refine then_n ?_
      refine wp_ret ?_
      refine then_r ?_
      -- return 1
      refine retct rfl H153 rfl z_agg38 z_size38 (by repeat (first | exact Mh | apply Mt)) (q_len_c8b32b32c4 (by assumption) (by assumption)) rfl ?_
      first | (rw [Pool.next_no (p := ⟨size, L⟩) hnone]; exact ⟨_, _, rfl, ⟨rfl, (.slice A L.length cc), rfl⟩, H153.sep.sub (by repeat (first | exact S1 | exact S0 | apply S2 | apply S3))⟩) | (have hsx := H153.sep.sub (l' := [It.row 38 76 (.slice A2 (L.eraseIdx j).length c2) (L.eraseIdx j).length (Pool.wc ((L.eraseIdx j).map (Pool.raise (L.getD j Pool.Wait.zero)))), It.blk bp 63 [i64 size, (.slice A2 (L.eraseIdx j).length c2)]]) (by repeat (first | exact S1 | exact S0 | apply S2 | apply S3)); rw [Pool.next_yes (p := ⟨size, L⟩) hpk]; refine ⟨_, _, rfl, ⟨rfl, (.slice A2 (L.eraseIdx j).length c2), rfl⟩, ?_⟩; dsimp only; rw [List.length_map]; exact hsx)
    · skip
      try simp only [decide_eq_true_eq, decide_eq_false_iff_not, Bool.not_eq_true', Bool.not_eq_false', Bool.and_eq_true, Bool.not_eq_true, Bool.not_eq_false] at hc150
      obtain ⟨j, hpk, hpj, hjl⟩ := Pool.pick_is hc150
      rw [hpj] at H149
      have hwj := hL.at_ hjl
      have hwh := hwj.tx.hand
      have hwt := hwj.tx.tag
      have hrj : Pool.right (L.getD j Pool.Wait.zero) := hg.right _ (Pool.mem_getD (L := L) hjl)
      have hrn := (Txs.check_is.1 hrj.1).2.1.1.1
      unfold Txs.within at hrn
      have hE := hL.erase j
      have hEl := (Pool.erase_sub L j).length_le
      refine wp_skip ?_
      refine then_n ?_
      refine wp_seq ?_
      refine reg ?_
      refine plain (y_move rfl rfl) rfl rfl rfl H149 ?_
      clear H149; intro a154 H154
      refine plain (y_move rfl rfl) rfl rfl rfl H154 ?_
      clear H154; intro a155 H155
      refine st_callk2 (is := [It.row 38 76 (.slice A L.length cc) L.length (Pool.wc L), It.blk bp 63 [i64 size, (.slice A L.length cc)]]) (enters_call rfl z_call28 rfl) rfl rfl rfl H155 (.cons (by repeat (first | exact Ph | apply Pt)) (.cons (by repeat (first | exact Ph | apply Pt)) (.nil _))) (fun hs => ptake L hL size bp (.slice A L.length cc) j hjl (by omega) hs) ?_
      clear H155; intro v156 l156 a156 wx156 hf156 H156
      obtain ⟨rfl, v1, rfl⟩ := hf156
      simp only [List.cons_append, List.nil_append] at H156
      obtain ⟨A2, c2, rfl, hR2, hm2⟩ := row_shape (v := v1) H156.sep (by repeat (first | exact Mh | apply Mt))
      refine st_alloc rfl z_zeroN38 rfl rfl rfl H156 ?_
      clear H156; intro b157 a157 wx157 H157
      refine st_storeN rfl z_size38 rfl rfl (agg_cells _) (by repeat (first | exact Uh | apply Ut)) (q_one_c8b32b32c4 rfl rfl rfl rfl rfl rfl rfl rfl rfl rfl rfl rfl) (q_len_c8b32b32c4 (by assumption) (by assumption)) (q_len_c8b32b32c4 (by assumption) (by assumption)) (q_spl_c8b32b32c4_0_c8b32b32c4 (by assumption) (by assumption) (by assumption) (by assumption)) (by decide) rfl rfl H157 ?_
      clear H157; intro wx158 H158
      refine fin ?_
      refine then_n ?_
      refine wp_seq ?_
      refine wp_seq ?_
      refine reg ?_
      refine plain (y_move rfl rfl) rfl rfl rfl H158 ?_
      clear H158; intro a159 H159
      refine plain (y_nilCheck rfl rfl) rfl rfl rfl H159 ?_
      clear H159; intro a160 H160
      refine plain (y_fieldB rfl z_field63_1 rfl (by first | (simp only [Nat.zero_add, Nat.add_zero, Nat.reduceAdd]; rfl) | rfl)) rfl rfl rfl H160 ?_
      clear H160; intro a161 H161
      refine plain (y_loadB rfl z_agg30 rfl (by repeat (first | exact Mh | apply Mt)) q_ix_c2_1) rfl rfl rfl H161 ?_
      clear H161; intro a162 H162
      refine plain (y_len rfl Try.underlying30 rfl) rfl rfl rfl H162 ?_
      clear H162; intro a163 H163
      refine plain (y_move rfl rfl) rfl rfl rfl H163 ?_
      clear H163; intro a164 H164
      refine fin ?_
      refine then_n ?_
      refine wp_block ?_
      refine loop (ι := Nat) (fun k => [(0, .pointer (some ⟨bp, 0, none⟩)), (6, .pointer (some ⟨b1, 0, none⟩)), (7, .bool false), (11, .pointer (some ⟨b157, 0, none⟩)), (74, (.slice A2 (L.eraseIdx j).length c2)), (75, .int .i64 ((L.eraseIdx j).length : Int)), (76, .int .i64 (k : Int))]) (fun k => [It.blk b157 38 (Pool.Wait.cells (L.getD j Pool.Wait.zero)), It.row 38 76 (.slice A2 (L.eraseIdx j).length c2) (L.eraseIdx j).length (Pool.wc (Pool.rz (L.getD j Pool.Wait.zero) (L.eraseIdx j) k)), It.blk bp 63 [i64 size, (.slice A2 (L.eraseIdx j).length c2)], It.blk b1 38 (Pool.Wait.cells Pool.Wait.zero)]) (fun k => k ≤ (L.eraseIdx j).length) (fun k => (L.eraseIdx j).length - k) (0) (Nat.zero_le _) (H164.weak ⟨rfl, rfl, rfl, rfl, rfl, rfl, rfl, trivial⟩ (by rw [Pool.rz_0]; rfl)) ?_
      clear H164; intro k a165 wx165 hok165 H165
      have hok := hok165
      refine wp_seq ?_
      refine reg ?_
      refine plain (y_lss rfl rfl rfl) rfl rfl rfl H165 ?_
      clear H165; intro a166 H166
      refine fin ?_
      refine then_n ?_
      refine wp_seq ?_
      refine cnd H166 rfl (fun hc167 => ?_) (fun hc167 => ?_) -- cond 8
      · skip
        try simp only [decide_eq_true_eq, decide_eq_false_iff_not, Bool.not_eq_true', Bool.not_eq_false', Bool.and_eq_true, Bool.not_eq_true, Bool.not_eq_false] at hc167
        refine wp_skip ?_
        refine then_n ?_
        refine wp_seq ?_
        refine wp_block ?_
        refine wp_seq ?_
        have hkl : k < (L.eraseIdx j).length := by omega
        have hwk := hE.at_ hkl
        have whd := hwk.tx.hand
        have wtg := hwk.tx.tag
        have hre : Pool.right ((L.eraseIdx j).getD k Pool.Wait.zero) := hg.right _ ((Pool.erase_sub L j).subset (Pool.mem_getD hkl))
        refine reg ?_
        refine plain (y_move rfl rfl) rfl rfl rfl H166 ?_
        clear H166; intro a168 H168
        refine plain (y_ixR rfl Try.underlying30 z_size38 rfl rfl (by omega) (by omega) (rd_row (by repeat (first | exact Mh | apply Mt))) (by first | (rw [Pool.wc_len hL]; omega) | (rw [Pool.wc_len (hE.rz hwj _), Pool.rz_len]; omega) | (rw [spl_len (by rw [Pool.wc_len (hE.rz hwj k), Pool.rz_len]; show _ + 1 ≤ _; omega), Pool.wc_len (hE.rz hwj k), Pool.rz_len]; omega))) rfl rfl rfl H168 ?_
        clear H168; intro a169 H169
        refine plain (y_loadAS rfl z_agg38 z_size38 rfl (rd_row (by repeat (first | exact Mh | apply Mt))) (show _ = Pool.Wait.cells ((L.eraseIdx j).getD k Pool.Wait.zero) from ((Pool.wc_take (hE.rz hwj k) k (by rw [Pool.rz_len]; omega)).trans (by rw [Pool.rz_getD]))) hwk.len (by decide)) rfl rfl rfl H169 ?_
        clear H169; intro a170 H170
        refine st_alloc rfl z_zeroN38 rfl rfl rfl H170 ?_
        clear H170; intro b171 a171 wx171 H171
        refine plain (y_assign rfl rfl) rfl rfl rfl H171 ?_
        clear H171; intro a172 H172
        refine st_storeN rfl z_size38 rfl rfl (agg_cells _) (by repeat (first | exact Uh | apply Ut)) (q_one_c8b32b32c4 rfl rfl rfl rfl rfl rfl rfl rfl rfl rfl rfl rfl) (q_len_c8b32b32c4 (by assumption) (by assumption)) (q_len_c8b32b32c4 (by assumption) (by assumption)) (q_spl_c8b32b32c4_0_c8b32b32c4 (by assumption) (by assumption) (by assumption) (by assumption)) (by decide) rfl rfl H172 ?_
        clear H172; intro wx173 H173
        refine fin ?_
        refine then_n ?_
        refine wp_seq ?_
        refine qreg (by kernel_rfl) (by kernel_rfl) H173 ?_
        have F174 := H173.fr
        clear H173
        refine qplain (y_fieldB rfl z_field38_0 rfl (by first | (simp only [Nat.zero_add, Nat.add_zero, Nat.reduceAdd]; rfl) | rfl)) rfl rfl rfl F174 ?_
        clear F174; intro a175 H175
        refine qplain (y_fieldB rfl z_field36_0 rfl (by first | (simp only [Nat.zero_add, Nat.add_zero, Nat.reduceAdd]; rfl) | rfl)) rfl rfl rfl H175 ?_
        clear H175; intro a176 H176
        refine qplain (y_loadB rfl z_agg3 rfl (by repeat (first | exact Mh | apply Mt)) q_ix_c8b32b32c4_0) rfl rfl rfl H176 ?_
        clear H176; intro a177 H177
        refine qplain (y_fieldB rfl z_field38_0 rfl (by first | (simp only [Nat.zero_add, Nat.add_zero, Nat.reduceAdd]; rfl) | rfl)) rfl rfl rfl H177 ?_
        clear H177; intro a178 H178
        refine qplain (y_fieldB rfl z_field36_0 rfl (by first | (simp only [Nat.zero_add, Nat.add_zero, Nat.reduceAdd]; rfl) | rfl)) rfl rfl rfl H178 ?_
        clear H178; intro a179 H179
        refine qplain (y_loadB rfl z_agg3 rfl (by repeat (first | exact Mh | apply Mt)) q_ix_c8b32b32c4_0) rfl rfl rfl H179 ?_
        clear H179; intro a180 H180
        refine qplain (y_eql rfl rfl rfl) rfl rfl rfl H180 ?_
        clear H180; intro a181 H181
        refine qplain (y_move rfl rfl) rfl rfl rfl H181 ?_
        clear H181; intro a182 H182
        refine qpart (d := 88) H182 rfl (fun hg183 => ?_) (fun hg183 => ?_)
        · first
          | fail
          | skip
            clear H182; intro H184
            try simp only [decide_eq_true_eq, decide_eq_false_iff_not, Bool.not_eq_true', Bool.not_eq_false', Bool.and_eq_true, Bool.not_eq_true, Bool.not_eq_false] at hg183
            refine qplain (y_fieldB rfl z_field38_0 rfl (by first | (simp only [Nat.zero_add, Nat.add_zero, Nat.reduceAdd]; rfl) | rfl)) rfl rfl rfl H184 ?_
            clear H184; intro a185 H185
            refine qplain (y_fieldB rfl z_field36_1 rfl (by first | (simp only [Nat.zero_add, Nat.add_zero, Nat.reduceAdd]; rfl) | rfl)) rfl rfl rfl H185 ?_
            clear H185; intro a186 H186
            refine qplain (y_loadB rfl z_agg3 rfl (by repeat (first | exact Mh | apply Mt)) q_ix_c8b32b32c4_1) rfl rfl rfl H186 ?_
            clear H186; intro a187 H187
            refine qplain (y_fieldB rfl z_field38_0 rfl (by first | (simp only [Nat.zero_add, Nat.add_zero, Nat.reduceAdd]; rfl) | rfl)) rfl rfl rfl H187 ?_
            clear H187; intro a188 H188
            refine qplain (y_fieldB rfl z_field36_1 rfl (by first | (simp only [Nat.zero_add, Nat.add_zero, Nat.reduceAdd]; rfl) | rfl)) rfl rfl rfl H188 ?_
            clear H188; intro a189 H189
            refine qplain (y_loadB rfl z_agg3 rfl (by repeat (first | exact Mh | apply Mt)) q_ix_c8b32b32c4_1) rfl rfl rfl H189 ?_
            clear H189; intro a190 H190
            refine qplain (y_add rfl rfl rfl (by first | exact w64 (by omega) (by omega) | rfl)) rfl rfl rfl H190 ?_
            clear H190; intro a191 H191
            refine qplain (y_eql rfl rfl rfl) rfl rfl rfl H191 ?_
            clear H191; intro a192 H192
            refine qplain (y_pick_t rfl rfl rfl) rfl rfl rfl H192 ?_
            clear H192; intro a193 H193
            refine qplain (y_move rfl rfl) rfl rfl rfl H193 ?_
            clear H193; intro a194 H194
            refine qpart (d := 98) H194 rfl (fun hg195 => ?_) (fun hg195 => ?_)
            · first
              | fail
              | skip
                clear H194; intro H196
                try simp only [decide_eq_true_eq, decide_eq_false_iff_not, Bool.not_eq_true', Bool.not_eq_false', Bool.and_eq_true, Bool.not_eq_true, Bool.not_eq_false] at hg195
                refine qplain (y_loadAB rfl z_agg38 z_size38 rfl (by repeat (first | exact Mh | apply Mt)) (q_ld_c8b32b32c4_0_76 (by assumption) (by assumption)) (q_len_c8b32b32c4 (by assumption) (by assumption))) rfl rfl rfl H196 ?_
                clear H196; intro a197 H197
                refine qcallg rfl z_call33 rfl rfl rfl rfl H197 (fun w hs => (pkey _ (by first | assumption | exact (hwp (by assumption)).1) _)) ?_
                clear H197; intro a198 H198
                refine qplain (y_loadAB rfl z_agg38 z_size38 rfl (by repeat (first | exact Mh | apply Mt)) (q_ld_c8b32b32c4_0_76 (by assumption) (by assumption)) (q_len_c8b32b32c4 (by assumption) (by assumption))) rfl rfl rfl H198 ?_
                clear H198; intro a199 H199
                refine qcallg rfl z_call33 rfl rfl rfl rfl H199 (fun w hs => (pkey _ (by first | assumption | exact (hwp (by assumption)).1) _)) ?_
                clear H199; intro a200 H200
                refine qcallg rfl z_call32 rfl rfl rfl rfl H200 (fun w hs => (pbelow ((L.eraseIdx j).getD k Pool.Wait.zero) (L.getD j Pool.Wait.zero) hre.2.2.2 hrj.2.2.2 _)) ?_
                clear H200; intro a201 H201
                refine qplain (y_pick_t rfl rfl rfl) rfl rfl rfl H201 ?_
                clear H201; intro a202 H202
                refine qfin H202 ?_
                clear H202; intro wx203 H203
                refine then_n ?_
                refine cnd H203 rfl (fun hc204 => ?_) (fun hc204 => ?_) -- cond 9
                · skip
                  try simp only [decide_eq_true_eq, decide_eq_false_iff_not, Bool.not_eq_true', Bool.not_eq_false', Bool.and_eq_true, Bool.not_eq_true, Bool.not_eq_false] at hc204
                  have isYes := True.intro
                  refine hreg [It.blk b157 38 (Pool.Wait.cells (L.getD j Pool.Wait.zero)), It.blk bp 63 [i64 size, (.slice A2 (L.eraseIdx j).length c2)]] (fun _ h => (h.sub (by first | exact S0 | exact S1 | repeat (first | exact S1 | exact S0 | apply S2 | apply S3)))) (by kernel_rfl) H203 ?_
                  clear H203; intro wx205 H205
                  refine htake 0 rfl (by kernel_rfl) (y_move rfl rfl) rfl rfl rfl (fun _ h => (h.sub (by first | exact S0 | exact S1 | repeat (first | exact S1 | exact S0 | apply S2 | apply S3)))) H205 ?_
                  clear H205; intro a206 H206
                  refine htake 1 rfl (by kernel_rfl) (y_nilCheck rfl rfl) rfl rfl rfl (fun _ h => (h.sub (by first | exact S0 | exact S1 | repeat (first | exact S1 | exact S0 | apply S2 | apply S3)))) H206 ?_
                  clear H206; intro a207 H207
                  refine htake 2 rfl (by kernel_rfl) (y_fieldB rfl z_field63_1 rfl (by first | (simp only [Nat.zero_add, Nat.add_zero, Nat.reduceAdd]; rfl) | rfl)) rfl rfl rfl (fun _ h => (h.sub (by first | exact S0 | exact S1 | repeat (first | exact S1 | exact S0 | apply S2 | apply S3)))) H207 ?_
                  clear H207; intro a208 H208
                  refine htake 3 rfl (by kernel_rfl) (y_loadB rfl z_agg30 rfl (by repeat (first | exact Mh | apply Mt)) q_ix_c2_1) rfl rfl rfl (fun _ h => (h.sub (by first | exact S0 | exact S1 | repeat (first | exact S1 | exact S0 | apply S2 | apply S3)))) H208 ?_
                  clear H208; intro a209 H209
                  refine htake 4 rfl (by kernel_rfl) (y_move rfl rfl) rfl rfl rfl (fun _ h => (h.sub (by first | exact S0 | exact S1 | repeat (first | exact S1 | exact S0 | apply S2 | apply S3)))) H209 ?_
                  clear H209; intro a210 H210
                  refine htake 5 rfl (by kernel_rfl) (y_move rfl rfl) rfl rfl rfl (fun _ h => (h.sub (by first | exact S0 | exact S1 | repeat (first | exact S1 | exact S0 | apply S2 | apply S3)))) H210 ?_
                  clear H210; intro a211 H211
                  refine htake 6 rfl (by kernel_rfl) (y_nilCheck rfl rfl) rfl rfl rfl (fun _ h => (h.sub (by first | exact S0 | exact S1 | repeat (first | exact S1 | exact S0 | apply S2 | apply S3)))) H211 ?_
                  clear H211; intro a212 H212
                  refine htake 7 rfl (by kernel_rfl) (y_fieldB rfl z_field63_1 rfl (by first | (simp only [Nat.zero_add, Nat.add_zero, Nat.reduceAdd]; rfl) | rfl)) rfl rfl rfl (fun _ h => (h.sub (by first | exact S0 | exact S1 | repeat (first | exact S1 | exact S0 | apply S2 | apply S3)))) H212 ?_
                  clear H212; intro a213 H213
                  refine htake 8 rfl (by kernel_rfl) (y_loadB rfl z_agg30 rfl (by repeat (first | exact Mh | apply Mt)) q_ix_c2_1) rfl rfl rfl (fun _ h => (h.sub (by first | exact S0 | exact S1 | repeat (first | exact S1 | exact S0 | apply S2 | apply S3)))) H213 ?_
                  clear H213; intro a214 H214
                  refine htake 9 rfl (by kernel_rfl) (y_move rfl rfl) rfl rfl rfl (fun _ h => (h.sub (by first | exact S0 | exact S1 | repeat (first | exact S1 | exact S0 | apply S2 | apply S3)))) H214 ?_
                  clear H214; intro a215 H215
                  refine htake 10 rfl (by kernel_rfl) (y_fieldB rfl z_field38_3 rfl (by first | (simp only [Nat.zero_add, Nat.add_zero, Nat.reduceAdd]; rfl) | rfl)) rfl rfl rfl (fun _ h => (h.sub (by first | exact S0 | exact S1 | repeat (first | exact S1 | exact S0 | apply S2 | apply S3)))) H215 ?_
                  clear H215; intro a216 H216
                  refine htake 11 rfl (by kernel_rfl) (y_loadB rfl z_agg3 rfl (by repeat (first | exact Mh | apply Mt)) (q_ix_c8b32b32c4_74 (by assumption) (by assumption))) rfl rfl rfl (fun _ h => (h.sub (by first | exact S0 | exact S1 | repeat (first | exact S1 | exact S0 | apply S2 | apply S3)))) H216 ?_
                  clear H216; intro a217 H217
                  refine htake 12 rfl (by kernel_rfl) (y_fieldB rfl z_field38_4 rfl (by first | (simp only [Nat.zero_add, Nat.add_zero, Nat.reduceAdd]; rfl) | rfl)) rfl rfl rfl (fun _ h => (h.sub (by first | exact S0 | exact S1 | repeat (first | exact S1 | exact S0 | apply S2 | apply S3)))) H217 ?_
                  clear H217; intro a218 H218
                  refine htake 13 rfl (by kernel_rfl) (y_loadB rfl z_agg3 rfl (by repeat (first | exact Mh | apply Mt)) (q_ix_c8b32b32c4_75 (by assumption) (by assumption))) rfl rfl rfl (fun _ h => (h.sub (by first | exact S0 | exact S1 | repeat (first | exact S1 | exact S0 | apply S2 | apply S3)))) H218 ?_
                  clear H218; intro a219 H219
                  refine hgo 14 rfl (by kernel_rfl) ?_
                  refine plain (y_ixR rfl Try.underlying30 z_size38 rfl rfl (by omega) (by omega) (rd_row (by repeat (first | exact Mh | apply Mt))) (by first | (rw [Pool.wc_len hL]; omega) | (rw [Pool.wc_len (hE.rz hwj _), Pool.rz_len]; omega) | (rw [spl_len (by rw [Pool.wc_len (hE.rz hwj k), Pool.rz_len]; show _ + 1 ≤ _; omega), Pool.wc_len (hE.rz hwj k), Pool.rz_len]; omega))) rfl rfl rfl H219 ?_
                  clear H219; intro a220 H220
                  refine hfin (H220.sep.sub (by first | exact S0 | exact S1 | repeat (first | exact S1 | exact S0 | apply S2 | apply S3))) ?_
                  refine hgo 15 rfl (by kernel_rfl) ?_
                  refine plain (y_fieldS rfl z_field38_3 rfl (rd_row (by repeat (first | exact Mh | apply Mt))) (by first | (rw [Pool.wc_len hL]; omega) | (rw [Pool.wc_len (hE.rz hwj _), Pool.rz_len]; omega) | (rw [spl_len (by rw [Pool.wc_len (hE.rz hwj k), Pool.rz_len]; show _ + 1 ≤ _; omega), Pool.wc_len (hE.rz hwj k), Pool.rz_len]; omega))) rfl rfl rfl H220 ?_
                  clear H220; intro a221 H221
                  refine hfin (H221.sep.sub (by first | exact S0 | exact S1 | repeat (first | exact S1 | exact S0 | apply S2 | apply S3))) ?_
                  refine hgo 16 rfl (by kernel_rfl) ?_
                  refine st_storeRow rfl z_size3 rfl rfl rfl (Pool.one_int _) rfl (by decide) (by repeat (first | exact Uh | apply Ut)) (by rw [Pool.wc_len (hE.rz hwj k), Pool.rz_len]; omega) rfl rfl H221 ?_
                  clear H221; intro wx222 H222
                  refine hfin (H222.sep.sub (by first | exact S0 | exact S1 | repeat (first | exact S1 | exact S0 | apply S2 | apply S3))) ?_
                  refine hgo 17 rfl (by kernel_rfl) ?_
                  refine plain (y_ixR rfl Try.underlying30 z_size38 rfl rfl (by omega) (by omega) (rd_row (by repeat (first | exact Mh | apply Mt))) (by first | (rw [Pool.wc_len hL]; omega) | (rw [Pool.wc_len (hE.rz hwj _), Pool.rz_len]; omega) | (rw [spl_len (by rw [Pool.wc_len (hE.rz hwj k), Pool.rz_len]; show _ + 1 ≤ _; omega), Pool.wc_len (hE.rz hwj k), Pool.rz_len]; omega))) rfl rfl rfl H222 ?_
                  clear H222; intro a223 H223
                  refine hfin (H223.sep.sub (by first | exact S0 | exact S1 | repeat (first | exact S1 | exact S0 | apply S2 | apply S3))) ?_
                  refine hgo 18 rfl (by kernel_rfl) ?_
                  refine plain (y_fieldS rfl z_field38_4 rfl (rd_row (by repeat (first | exact Mh | apply Mt))) (by first | (rw [Pool.wc_len hL]; omega) | (rw [Pool.wc_len (hE.rz hwj _), Pool.rz_len]; omega) | (rw [spl_len (by rw [Pool.wc_len (hE.rz hwj k), Pool.rz_len]; show _ + 1 ≤ _; omega), Pool.wc_len (hE.rz hwj k), Pool.rz_len]; omega))) rfl rfl rfl H223 ?_
                  clear H223; intro a224 H224
                  refine hfin (H224.sep.sub (by first | exact S0 | exact S1 | repeat (first | exact S1 | exact S0 | apply S2 | apply S3))) ?_
                  refine hgo 19 rfl (by kernel_rfl) ?_
                  refine st_storeRow rfl z_size3 rfl rfl rfl (Pool.one_int _) rfl (by decide) (by repeat (first | exact Uh | apply Ut)) (by rw [spl_len (by rw [Pool.wc_len (hE.rz hwj k), Pool.rz_len]; show _ + 1 ≤ _; omega), Pool.wc_len (hE.rz hwj k), Pool.rz_len]; omega) rfl rfl H224 ?_
                  clear H224; intro wx225 H225
                  refine hfin (H225.sep.sub (by first | exact S0 | exact S1 | repeat (first | exact S1 | exact S0 | apply S2 | apply S3))) ?_
                  refine hdone (by kernel_rfl) ?_
                  refine inb_n ?_
                  refine then_n ?_
                  refine reg ?_
                  refine plain (y_add rfl rfl rfl (by first | exact w64 (by omega) (by omega) | rfl)) rfl rfl rfl H225 ?_
                  clear H225; intro a226 H226
                  refine plain (y_move rfl rfl) rfl rfl rfl H226 ?_
                  clear H226; intro a227 H227
                  refine fin ?_
                  refine then_n ?_
                  first | (have hz := isYes; refine ⟨k + 1, by omega, by omega, (H227.drop (List.Sublist.cons _ (List.Sublist.refl _))).weak ⟨rfl, rfl, rfl, rfl, rfl, rfl, fi rfl (by omega), trivial⟩ (by rw [← Pool.rz_yes hE hwj hkl (show Pool.follows _ _ from ⟨by assumption, by assumption, by assumption⟩)]; rfl)⟩) | (refine ⟨k + 1, by omega, by omega, (H227.drop (List.Sublist.cons _ (List.Sublist.refl _))).weak ⟨rfl, rfl, rfl, rfl, rfl, rfl, fi rfl (by omega), trivial⟩ (by rw [Pool.rz_no hkl (by rintro ⟨a, b, c⟩; first | contradiction | omega)])⟩)
                · skip
                  try simp only [decide_eq_true_eq, decide_eq_false_iff_not, Bool.not_eq_true', Bool.not_eq_false', Bool.and_eq_true, Bool.not_eq_true, Bool.not_eq_false] at hc204
                  refine wp_skip ?_
                  refine inb_n ?_
                  refine then_n ?_
                  refine reg ?_
                  refine plain (y_add rfl rfl rfl (by first | exact w64 (by omega) (by omega) | rfl)) rfl rfl rfl H203 ?_
                  clear H203; intro a228 H228
                  refine plain (y_move rfl rfl) rfl rfl rfl H228 ?_
                  clear H228; intro a229 H229
                  refine fin ?_
                  refine then_n ?_
                  first | (have hz := isYes; refine ⟨k + 1, by omega, by omega, (H229.drop (List.Sublist.cons _ (List.Sublist.refl _))).weak ⟨rfl, rfl, rfl, rfl, rfl, rfl, fi rfl (by omega), trivial⟩ (by rw [← Pool.rz_yes hE hwj hkl (show Pool.follows _ _ from ⟨by assumption, by assumption, by assumption⟩)]; rfl)⟩) | (refine ⟨k + 1, by omega, by omega, (H229.drop (List.Sublist.cons _ (List.Sublist.refl _))).weak ⟨rfl, rfl, rfl, rfl, rfl, rfl, fi rfl (by omega), trivial⟩ (by rw [Pool.rz_no hkl (by rintro ⟨a, b, c⟩; first | contradiction | omega)])⟩)
            · first
              | fail
              | skip
                clear H194; intro H230
                try simp only [decide_eq_true_eq, decide_eq_false_iff_not, Bool.not_eq_true', Bool.not_eq_false', Bool.and_eq_true, Bool.not_eq_true, Bool.not_eq_false] at hg195
                refine qskip rfl rfl rfl H230 ?_
                clear H230; intro a231 H231
                refine qskip rfl rfl rfl H231 ?_
                clear H231; intro a232 H232
                refine qskip rfl rfl rfl H232 ?_
                clear H232; intro a233 H233
                refine qskip rfl rfl rfl H233 ?_
                clear H233; intro a234 H234
                refine qskip rfl rfl rfl H234 ?_
                clear H234; intro a235 H235
                refine qplain (y_pick_f rfl rfl rfl) rfl rfl rfl H235 ?_
                clear H235; intro a236 H236
                refine qfin H236 ?_
                clear H236; intro wx237 H237
                refine then_n ?_
                refine cnd_f H237 rfl ?_
                refine wp_skip ?_
                refine inb_n ?_
                refine then_n ?_
                refine reg ?_
                refine plain (y_add rfl rfl rfl (by first | exact w64 (by omega) (by omega) | rfl)) rfl rfl rfl H237 ?_
                clear H237; intro a239 H239
                refine plain (y_move rfl rfl) rfl rfl rfl H239 ?_
                clear H239; intro a240 H240
                refine fin ?_
                refine then_n ?_
                first | (have hz := isYes; refine ⟨k + 1, by omega, by omega, (H240.drop (List.Sublist.cons _ (List.Sublist.refl _))).weak ⟨rfl, rfl, rfl, rfl, rfl, rfl, fi rfl (by omega), trivial⟩ (by rw [← Pool.rz_yes hE hwj hkl (show Pool.follows _ _ from ⟨by assumption, by assumption, by assumption⟩)]; rfl)⟩) | (refine ⟨k + 1, by omega, by omega, (H240.drop (List.Sublist.cons _ (List.Sublist.refl _))).weak ⟨rfl, rfl, rfl, rfl, rfl, rfl, fi rfl (by omega), trivial⟩ (by rw [Pool.rz_no hkl (by rintro ⟨a, b, c⟩; first | contradiction | omega)])⟩)
        · first
          | fail
          | skip
            clear H182; intro H241
            try simp only [decide_eq_true_eq, decide_eq_false_iff_not, Bool.not_eq_true', Bool.not_eq_false', Bool.and_eq_true, Bool.not_eq_true, Bool.not_eq_false] at hg183
            refine qskip rfl rfl rfl H241 ?_
            clear H241; intro a242 H242
            refine qskip rfl rfl rfl H242 ?_
            clear H242; intro a243 H243
            refine qskip rfl rfl rfl H243 ?_
            clear H243; intro a244 H244
            refine qskip rfl rfl rfl H244 ?_
            clear H244; intro a245 H245
            refine qskip rfl rfl rfl H245 ?_
            clear H245; intro a246 H246
            refine qskip rfl rfl rfl H246 ?_
            clear H246; intro a247 H247
            refine qskip rfl rfl rfl H247 ?_
            clear H247; intro a248 H248
            refine qskip rfl rfl rfl H248 ?_
            clear H248; intro a249 H249
            refine qplain (y_pick_f rfl rfl rfl) rfl rfl rfl H249 ?_
            clear H249; intro a250 H250
            refine qplain (y_move rfl rfl) rfl rfl rfl H250 ?_
            clear H250; intro a251 H251
            refine qskip rfl rfl rfl H251 ?_
            clear H251; intro a252 H252
            refine qskip rfl rfl rfl H252 ?_
            clear H252; intro a253 H253
            refine qskip rfl rfl rfl H253 ?_
            clear H253; intro a254 H254
            refine qskip rfl rfl rfl H254 ?_
            clear H254; intro a255 H255
            refine qskip rfl rfl rfl H255 ?_
            clear H255; intro a256 H256
            refine qplain (y_pick_f rfl rfl rfl) rfl rfl rfl H256 ?_
            clear H256; intro a257 H257
            refine qfin H257 ?_
            clear H257; intro wx258 H258
            refine then_n ?_
            refine cnd_f H258 rfl ?_
            refine wp_skip ?_
            refine inb_n ?_
            refine then_n ?_
            refine reg ?_
            refine plain (y_add rfl rfl rfl (by first | exact w64 (by omega) (by omega) | rfl)) rfl rfl rfl H258 ?_
            clear H258; intro a260 H260
            refine plain (y_move rfl rfl) rfl rfl rfl H260 ?_
            clear H260; intro a261 H261
            refine fin ?_
            refine then_n ?_
            first | (have hz := isYes; refine ⟨k + 1, by omega, by omega, (H261.drop (List.Sublist.cons _ (List.Sublist.refl _))).weak ⟨rfl, rfl, rfl, rfl, rfl, rfl, fi rfl (by omega), trivial⟩ (by rw [← Pool.rz_yes hE hwj hkl (show Pool.follows _ _ from ⟨by assumption, by assumption, by assumption⟩)]; rfl)⟩) | (refine ⟨k + 1, by omega, by omega, (H261.drop (List.Sublist.cons _ (List.Sublist.refl _))).weak ⟨rfl, rfl, rfl, rfl, rfl, rfl, fi rfl (by omega), trivial⟩ (by rw [Pool.rz_no hkl (by rintro ⟨a, b, c⟩; first | contradiction | omega)])⟩)
      · skip
        try simp only [decide_eq_true_eq, decide_eq_false_iff_not, Bool.not_eq_true', Bool.not_eq_false', Bool.and_eq_true, Bool.not_eq_true, Bool.not_eq_false] at hc167
        refine wp_exit ?_
        refine then_x ?_
        refine then_x ?_
        refine inb_hit ?_
        refine then_n ?_
        refine wp_seq ?_
        rw [Pool.rz_all (by omega)] at H166
        refine reg ?_
        refine plain (y_loadAB rfl z_agg38 z_size38 rfl (by repeat (first | exact Mh | apply Mt)) (q_ld_c8b32b32c4_0_76 (by assumption) (by assumption)) (q_len_c8b32b32c4 (by assumption) (by assumption))) rfl rfl rfl H166 ?_
        clear H166; intro a262 H262
        refine st_storeN rfl z_size38 rfl rfl (agg_cells _) (by repeat (first | exact Uh | apply Ut)) (q_one_c8b32b32c4 rfl rfl rfl rfl rfl rfl rfl rfl rfl rfl rfl rfl) (q_len_c8b32b32c4 (by assumption) (by assumption)) (q_len_c8b32b32c4 (by assumption) (by assumption)) (q_spl_c8b32b32c4_0_c8b32b32c4 (by assumption) (by assumption) (by assumption) (by assumption)) (by decide) rfl rfl H262 ?_
        clear H262; intro wx263 H263
        refine plain (y_assign rfl rfl) rfl rfl rfl H263 ?_
        clear H263; intro a264 H264
        refine fin ?_
        refine then_n ?_
        refine wp_ret ?_
        -- return 2
        refine retct rfl H264 rfl z_agg38 z_size38 (by repeat (first | exact Mh | apply Mt)) (q_len_c8b32b32c4 (by assumption) (by assumption)) rfl ?_
        first | (rw [Pool.next_no (p := ⟨size, L⟩) hnone]; exact ⟨_, _, rfl, ⟨rfl, (.slice A L.length cc), rfl⟩, H264.sep.sub (by repeat (first | exact S1 | exact S0 | apply S2 | apply S3))⟩) | (have hsx := H264.sep.sub (l' := [It.row 38 76 (.slice A2 (L.eraseIdx j).length c2) (L.eraseIdx j).length (Pool.wc ((L.eraseIdx j).map (Pool.raise (L.getD j Pool.Wait.zero)))), It.blk bp 63 [i64 size, (.slice A2 (L.eraseIdx j).length c2)]]) (by repeat (first | exact S1 | exact S0 | apply S2 | apply S3)); rw [Pool.next_yes (p := ⟨size, L⟩) hpk]; refine ⟨_, _, rfl, ⟨rfl, (.slice A2 (L.eraseIdx j).length c2), rfl⟩, ?_⟩; dsimp only; rw [List.length_map]; exact hsx)
end Go.Proofs.Ytbdkgmkaakoigaa.P_Nx

set_option linter.unusedVariables false
set_option linter.unusedSimpArgs false
namespace Go.Proofs.Ytbdkgmkaakoigaa.P_All
open Go.Sx Go.RowKit

theorem z_size38 : sizeB Try.prog 38 = some 76 := by kernel_rfl
theorem z_zero38 : zeroL Try.prog 38 = some ([.int .i64 0, .int .i64 0, .int .i64 0, .int .i64 0, .string ⟨#[]⟩, .bool false, .int .i64 0, .int .i64 0, .int .u8 0, .int .u8 0, .int .u8 0, .int .u8 0, .int .u8 0, .int .u8 0, .int .u8 0, .int .u8 0, .int .u8 0, .int .u8 0, .int .u8 0, .int .u8 0, .int .u8 0, .int .u8 0, .int .u8 0, .int .u8 0, .int .u8 0, .int .u8 0, .int .u8 0, .int .u8 0, .int .u8 0, .int .u8 0, .int .u8 0, .int .u8 0, .int .u8 0, .int .u8 0, .int .u8 0, .int .u8 0, .int .u8 0, .int .u8 0, .int .u8 0, .int .u8 0, .int .u8 0, .int .u8 0, .int .u8 0, .int .u8 0, .int .u8 0, .int .u8 0, .int .u8 0, .int .u8 0, .int .u8 0, .int .u8 0, .int .u8 0, .int .u8 0, .int .u8 0, .int .u8 0, .int .u8 0, .int .u8 0, .int .u8 0, .int .u8 0, .int .u8 0, .int .u8 0, .int .u8 0, .int .u8 0, .int .u8 0, .int .u8 0, .int .u8 0, .int .u8 0, .int .u8 0, .int .u8 0, .int .u8 0, .int .u8 0, .int .u8 0, .int .u8 0, .int .i64 0, .int .i64 0, .int .i64 0, .int .i64 0]) := by kernel_rfl
theorem z_field63_1 : fieldB Try.prog 63 1 = some 1 := by kernel_rfl
theorem z_agg30 : aggB Try.prog 30 = some false := by kernel_rfl
theorem z_slice30 : sliceB Try.prog 30 = some (38, 76, 168) := by kernel_rfl
theorem z_notint30 : notIntB Try.prog 30 = true := by kernel_rfl
theorem z_call18 : callB Try.prog 18 = true := by kernel_rfl

set_option maxRecDepth 100000 in
set_option maxHeartbeats 1000000 in
theorem pall (L : List Pool.Wait) (hL : Pool.Wfs L) (size : Int) (bp : Nat) (v : Value) (hlen : L.length ≤ 1000) {w : World} (hp : (It.blk bp 63 [i64 size, v]).P w) (hr : (It.row 38 76 v L.length (Pool.wc L)).P w) : Calls Try.prog 18 #[.pointer (some ⟨bp, 0, none⟩)] w (Post [] w fun u l' => l' = [It.row 38 76 u L.length (Pool.wc L)]) := by
  obtain ⟨A, cc, rfl, hR, hmx⟩ := Row.rd hr
  have lz32 : (List.replicate 32 (0 : UInt8)).length = 32 := List.length_replicate
  refine enterL (args := [.pointer (some ⟨bp, 0, none⟩)]) Try.func18 rfl rfl (l := []) (Sep.refl _) ?_
  intro a0 H0
  refine wp_seq ?_
  refine reg ?_
  refine plain (y_assign rfl rfl) rfl rfl rfl H0 ?_
  clear H0; intro a1 H1
  refine fin ?_
  refine then_n ?_
  refine wp_seq ?_
  refine wp_seq ?_
  refine reg ?_
  refine plain (y_move rfl rfl) rfl rfl rfl H1 ?_
  clear H1; intro a2 H2
  refine plain (y_peql rfl Try.underlying24 rfl rfl) rfl rfl rfl H2 ?_
  clear H2; intro a3 H3
  refine fin ?_
  refine then_n ?_
  refine cnd_f H3 rfl ?_
  refine wp_skip ?_
  refine then_n ?_
  refine wp_seq ?_
  refine reg ?_
  refine st_buildSlice rfl Try.underlying30 z_size38 z_zero38 rfl rfl rfl rfl rfl rfl rfl H3 ?_
  clear H3; intro b5 a5 wx5 H5
  refine plain (y_move rfl rfl) rfl rfl rfl H5 ?_
  clear H5; intro a6 H6
  refine plain (y_nilCheck rfl rfl) rfl rfl rfl H6 ?_
  clear H6; intro a7 H7
  refine plain (y_fieldB rfl z_field63_1 rfl (by first | (simp only [Nat.zero_add, Nat.add_zero, Nat.reduceAdd]; rfl) | rfl)) rfl rfl rfl H7 ?_
  clear H7; intro a8 H8
  refine plain (y_loadO rfl z_agg30 rfl (blk_cell hp (by rfl)) (by simp)) rfl rfl rfl H8 ?_
  clear H8; intro a9 H9
  replace H9 := H9.asRow (b := b5) (size := 76) (m := 0) (by repeat (first | exact Uh | apply Ut)) rfl (by unfold maxLen; omega)
  refine st_append rfl z_slice30 z_notint30 rfl rfl (fun _ => (by repeat (first | exact Uh | apply Ut))) (fun w hs => Src.slice ((rd_old hR (by simp)) w hs) (Pool.wc_len hL) (Pool.wc_cell _)) (by unfold maxLen at *; first | omega | (simp only [List.length_cons, List.length_nil, List.length_append, List.length_map]; omega)) (by omega) rfl rfl rfl H9 ?_
  clear H9; intro v10 a10 wx10 hnil10 H10
  obtain ⟨Ar10, cr10, hvr10, hRr10, hmr10⟩ := row_shape (v := v10) H10.sep (by repeat (first | exact Mh | apply Mt))
  subst hvr10
  refine plain (y_assign rfl rfl) rfl rfl rfl H10 ?_
  clear H10; intro a11 H11
  refine fin ?_
  refine then_n ?_
  refine wp_ret ?_
  -- return 1
  refine ret1 rfl H11 rfl ?_
  have hsx := H11.sep
  simp only [List.nil_append, Nat.zero_add] at hsx
  exact ⟨_, _, rfl, rfl, by simpa using hsx⟩
set_option maxRecDepth 100000 in
set_option maxHeartbeats 1000000 in
theorem plen (L : List Pool.Wait) (hL : Pool.Wfs L) (size : Int) (bp : Nat) (v : Value) (hlen : L.length ≤ 1000) {w : World} (hp : (It.blk bp 63 [i64 size, v]).P w) (hr : (It.row 38 76 v L.length (Pool.wc L)).P w) : Calls Try.prog 19 #[.pointer (some ⟨bp, 0, none⟩)] w (Gives (.int .i64 (L.length : Int)) [] w) := by
  have lz32 : (List.replicate 32 (0 : UInt8)).length = 32 := List.length_replicate
  refine enterL (args := [.pointer (some ⟨bp, 0, none⟩)]) Try.func19 rfl rfl (l := []) (Sep.refl _) ?_
  intro a0 H0
  refine wp_seq ?_
  refine reg ?_
  refine plain (y_assign rfl rfl) rfl rfl rfl H0 ?_
  clear H0; intro a1 H1
  refine fin ?_
  refine then_n ?_
  refine wp_seq ?_
  refine reg ?_
  refine plain (y_move rfl rfl) rfl rfl rfl H1 ?_
  clear H1; intro a2 H2
  refine st_call rfl z_call18 rfl rfl rfl rfl H2 (pall L hL size bp v hlen (H2.sep.keep hp) (H2.sep.keep hr)) ?_
  clear H2; intro v3 l3 a3 wx3 hf3 H3
  obtain rfl := hf3
  simp only [List.cons_append, List.nil_append] at H3
  obtain ⟨ArZ, crZ, hvrZ, hRrZ, hmrZ⟩ := row_shape (v := v3) H3.sep (by repeat (first | exact Mh | apply Mt))
  subst hvrZ
  refine plain (y_len rfl Try.underlying30 rfl) rfl rfl rfl H3 ?_
  clear H3; intro a4 H4
  refine plain (y_assign rfl rfl) rfl rfl rfl H4 ?_
  clear H4; intro a5 H5
  refine fin ?_
  refine then_n ?_
  refine wp_ret ?_
  -- return 1
  refine ret1 rfl H5 rfl ?_
  exact ⟨_, [], rfl, ⟨rfl, rfl⟩, H5.sep.sub (List.nil_sublist _)⟩
end Go.Proofs.Ytbdkgmkaakoigaa.P_All

set_option linter.unusedVariables false
set_option linter.unusedSimpArgs false
namespace Go.Proofs.Ytbdkgmkaakoigaa.P_Aw
open Go.Sx Go.RowKit Go.Proofs.Ytbdkgmkaakoigaa.P_New Go.Proofs.Ytbdkgmkaakoigaa.P_Put Go.Proofs.Ytbdkgmkaakoigaa.P_Nx Go.Proofs.Ytbdkgmkaakoigaa.P_All

theorem z_call8 : callB Try.prog 8 = true := by kernel_rfl
theorem z_zeroN36 : zeroL Try.prog 36 = some ((.int .i64 0 :: (.int .i64 0 :: (.int .i64 0 :: (.int .i64 0 :: (.string ⟨#[]⟩ :: (.bool false :: (.int .i64 0 :: (.int .i64 0 :: ((List.replicate 32 (0 : UInt8)).map u8 ++ (List.replicate 32 (0 : UInt8)).map u8)))))))))) := by kernel_rfl
theorem z_places36 : placesB Try.prog 36 = some [(0, 1), (1, 1), (2, 1), (3, 1), (4, 1), (5, 1), (6, 1), (7, 1), (8, 32), (40, 32)] := by kernel_rfl
theorem q_len_c8b32b32 {a0 a1 a2 a3 a4 a5 a6 a7 : Value} {t8 t9 : List UInt8} (h8 : t8.length = 32) (h9 : t9.length = 32) : (a0 :: a1 :: a2 :: a3 :: a4 :: a5 :: a6 :: a7 :: (t8.map u8 ++ (t9.map u8))).length = 72 := (len_c (n := 71) (len_c (n := 70) (len_c (n := 69) (len_c (n := 68) (len_c (n := 67) (len_c (n := 66) (len_c (n := 65) (len_c (n := 64) (len_b (k := 32) (n := 32) h8 (len_e (k := 32) h9))))))))))
theorem q_spl_c8b32b32_1_c1 {a0 a1 a2 a3 a4 a5 a6 a7 : Value} {t8 t9 : List UInt8} {b0 : Value} : spl (a0 :: a1 :: a2 :: a3 :: a4 :: a5 :: a6 :: a7 :: (t8.map u8 ++ (t9.map u8))) 1 (b0 :: []) = a0 :: b0 :: a2 :: a3 :: a4 :: a5 :: a6 :: a7 :: (t8.map u8 ++ (t9.map u8)) := (spl_c (o := 0) spl_0)
theorem z_zeroN38 : zeroL Try.prog 38 = some ((.int .i64 0 :: (.int .i64 0 :: (.int .i64 0 :: (.int .i64 0 :: (.string ⟨#[]⟩ :: (.bool false :: (.int .i64 0 :: (.int .i64 0 :: ((List.replicate 32 (0 : UInt8)).map u8 ++ ((List.replicate 32 (0 : UInt8)).map u8 ++ (.int .i64 0 :: (.int .i64 0 :: (.int .i64 0 :: (.int .i64 0 :: []))))))))))))))) := by kernel_rfl
theorem z_places38 : placesB Try.prog 38 = some [(0, 72), (72, 1), (73, 1), (74, 1), (75, 1)] := by kernel_rfl
theorem q_len_c8b32b32c4 {a0 a1 a2 a3 a4 a5 a6 a7 a10 a11 a12 a13 : Value} {t8 t9 : List UInt8} (h8 : t8.length = 32) (h9 : t9.length = 32) : (a0 :: a1 :: a2 :: a3 :: a4 :: a5 :: a6 :: a7 :: (t8.map u8 ++ ((t9.map u8 ++ (a10 :: a11 :: a12 :: a13 :: []))))).length = 76 := (len_c (n := 75) (len_c (n := 74) (len_c (n := 73) (len_c (n := 72) (len_c (n := 71) (len_c (n := 70) (len_c (n := 69) (len_c (n := 68) (len_b (k := 32) (n := 36) h8 (len_b (k := 32) (n := 4) h9 (len_c (n := 3) (len_c (n := 2) (len_c (n := 1) (len_c (n := 0) len_n))))))))))))))
theorem q_spl_c8b32b32c4_0_c8b32b32 {a0 a1 a2 a3 a4 a5 a6 a7 a10 a11 a12 a13 : Value} {t8 t9 : List UInt8} {b0 b1 b2 b3 b4 b5 b6 b7 : Value} {s8 s9 : List UInt8} (h8 : t8.length = 32) (h9 : t9.length = 32) (g8 : s8.length = 32) (g9 : s9.length = 32) : spl (a0 :: a1 :: a2 :: a3 :: a4 :: a5 :: a6 :: a7 :: (t8.map u8 ++ ((t9.map u8 ++ (a10 :: a11 :: a12 :: a13 :: []))))) 0 (b0 :: b1 :: b2 :: b3 :: b4 :: b5 :: b6 :: b7 :: (s8.map u8 ++ (s9.map u8))) = b0 :: b1 :: b2 :: b3 :: b4 :: b5 :: b6 :: b7 :: (s8.map u8 ++ ((s9.map u8 ++ (a10 :: a11 :: a12 :: a13 :: [])))) := (spl_m (z := 72) (len_c (n := 71) (len_c (n := 70) (len_c (n := 69) (len_c (n := 68) (len_c (n := 67) (len_c (n := 66) (len_c (n := 65) (len_c (n := 64) (len_b (k := 32) (n := 32) g8 (len_e (k := 32) g9)))))))))) (dr_c (o := 71) (dr_c (o := 70) (dr_c (o := 69) (dr_c (o := 68) (dr_c (o := 67) (dr_c (o := 66) (dr_c (o := 65) (dr_c (o := 64) (dr_b (k := 32) (o := 32) h8 rfl (dr_b (k := 32) (o := 0) h9 rfl dr_0)))))))))) (app_c (app_c (app_c (app_c (app_c (app_c (app_c (app_c (app_b app_e))))))))))
theorem q_spl_c8b32b32c4_74_c1 {a0 a1 a2 a3 a4 a5 a6 a7 a10 a11 a12 a13 : Value} {t8 t9 : List UInt8} {b0 : Value} (h8 : t8.length = 32) (h9 : t9.length = 32) : spl (a0 :: a1 :: a2 :: a3 :: a4 :: a5 :: a6 :: a7 :: (t8.map u8 ++ ((t9.map u8 ++ (a10 :: a11 :: a12 :: a13 :: []))))) 74 (b0 :: []) = a0 :: a1 :: a2 :: a3 :: a4 :: a5 :: a6 :: a7 :: (t8.map u8 ++ ((t9.map u8 ++ (a10 :: a11 :: b0 :: a13 :: [])))) := (spl_c (o := 73) (spl_c (o := 72) (spl_c (o := 71) (spl_c (o := 70) (spl_c (o := 69) (spl_c (o := 68) (spl_c (o := 67) (spl_c (o := 66) (spl_b (k := 32) (o := 34) h8 rfl (spl_b (k := 32) (o := 2) h9 rfl (spl_c (o := 1) (spl_c (o := 0) spl_0))))))))))))
theorem q_spl_c8b32b32c4_73_c1 {a0 a1 a2 a3 a4 a5 a6 a7 a10 a11 a12 a13 : Value} {t8 t9 : List UInt8} {b0 : Value} (h8 : t8.length = 32) (h9 : t9.length = 32) : spl (a0 :: a1 :: a2 :: a3 :: a4 :: a5 :: a6 :: a7 :: (t8.map u8 ++ ((t9.map u8 ++ (a10 :: a11 :: a12 :: a13 :: []))))) 73 (b0 :: []) = a0 :: a1 :: a2 :: a3 :: a4 :: a5 :: a6 :: a7 :: (t8.map u8 ++ ((t9.map u8 ++ (a10 :: b0 :: a12 :: a13 :: [])))) := (spl_c (o := 72) (spl_c (o := 71) (spl_c (o := 70) (spl_c (o := 69) (spl_c (o := 68) (spl_c (o := 67) (spl_c (o := 66) (spl_c (o := 65) (spl_b (k := 32) (o := 33) h8 rfl (spl_b (k := 32) (o := 1) h9 rfl (spl_c (o := 0) spl_0)))))))))))
theorem z_call10 : callB Try.prog 10 = true := by kernel_rfl
theorem q_spl_c8b32b32c4_72_c1 {a0 a1 a2 a3 a4 a5 a6 a7 a10 a11 a12 a13 : Value} {t8 t9 : List UInt8} {b0 : Value} (h8 : t8.length = 32) (h9 : t9.length = 32) : spl (a0 :: a1 :: a2 :: a3 :: a4 :: a5 :: a6 :: a7 :: (t8.map u8 ++ ((t9.map u8 ++ (a10 :: a11 :: a12 :: a13 :: []))))) 72 (b0 :: []) = a0 :: a1 :: a2 :: a3 :: a4 :: a5 :: a6 :: a7 :: (t8.map u8 ++ ((t9.map u8 ++ (b0 :: a11 :: a12 :: a13 :: [])))) := (spl_c (o := 71) (spl_c (o := 70) (spl_c (o := 69) (spl_c (o := 68) (spl_c (o := 67) (spl_c (o := 66) (spl_c (o := 65) (spl_c (o := 64) (spl_b (k := 32) (o := 32) h8 rfl (spl_b (k := 32) (o := 0) h9 rfl spl_0))))))))))
theorem q_spl_c8b32b32c4_75_c1 {a0 a1 a2 a3 a4 a5 a6 a7 a10 a11 a12 a13 : Value} {t8 t9 : List UInt8} {b0 : Value} (h8 : t8.length = 32) (h9 : t9.length = 32) : spl (a0 :: a1 :: a2 :: a3 :: a4 :: a5 :: a6 :: a7 :: (t8.map u8 ++ ((t9.map u8 ++ (a10 :: a11 :: a12 :: a13 :: []))))) 75 (b0 :: []) = a0 :: a1 :: a2 :: a3 :: a4 :: a5 :: a6 :: a7 :: (t8.map u8 ++ ((t9.map u8 ++ (a10 :: a11 :: a12 :: b0 :: [])))) := (spl_c (o := 74) (spl_c (o := 73) (spl_c (o := 72) (spl_c (o := 71) (spl_c (o := 70) (spl_c (o := 69) (spl_c (o := 68) (spl_c (o := 67) (spl_b (k := 32) (o := 35) h8 rfl (spl_b (k := 32) (o := 3) h9 rfl (spl_c (o := 2) (spl_c (o := 1) (spl_c (o := 0) spl_0)))))))))))))
theorem z_zeroN3 : zeroL Try.prog 3 = some ((.int .i64 0 :: [])) := by kernel_rfl
theorem z_size3 : sizeB Try.prog 3 = some 1 := by kernel_rfl
theorem q_len_c1 {a0 : Value} : (a0 :: []).length = 1 := (len_c (n := 0) len_n)
theorem q_set_c1_0 {a0 : Value} {v : Value} : (a0 :: []).set 0 v = v :: [] := set_0
theorem z_call15 : callB Try.prog 15 = true := by kernel_rfl
theorem z_size38 : sizeB Try.prog 38 = some 76 := by kernel_rfl
theorem q_one_c8b32b32c4 {a0 a1 a2 a3 a4 a5 a6 a7 a10 a11 a12 a13 : Value} {t8 t9 : List UInt8} (o0 : a0.oneCell' = true) (o1 : a1.oneCell' = true) (o2 : a2.oneCell' = true) (o3 : a3.oneCell' = true) (o4 : a4.oneCell' = true) (o5 : a5.oneCell' = true) (o6 : a6.oneCell' = true) (o7 : a7.oneCell' = true) (o10 : a10.oneCell' = true) (o11 : a11.oneCell' = true) (o12 : a12.oneCell' = true) (o13 : a13.oneCell' = true) : (a0 :: a1 :: a2 :: a3 :: a4 :: a5 :: a6 :: a7 :: (t8.map u8 ++ ((t9.map u8 ++ (a10 :: a11 :: a12 :: a13 :: []))))).all (·.oneCell') = true := (one_c o0 (one_c o1 (one_c o2 (one_c o3 (one_c o4 (one_c o5 (one_c o6 (one_c o7 (one_b (one_b (one_c o10 (one_c o11 (one_c o12 (one_c o13 one_n))))))))))))))
theorem q_spl_c8b32b32c4_0_c8b32b32c4 {a0 a1 a2 a3 a4 a5 a6 a7 a10 a11 a12 a13 : Value} {t8 t9 : List UInt8} {b0 b1 b2 b3 b4 b5 b6 b7 b10 b11 b12 b13 : Value} {s8 s9 : List UInt8} (h8 : t8.length = 32) (h9 : t9.length = 32) (g8 : s8.length = 32) (g9 : s9.length = 32) : spl (a0 :: a1 :: a2 :: a3 :: a4 :: a5 :: a6 :: a7 :: (t8.map u8 ++ ((t9.map u8 ++ (a10 :: a11 :: a12 :: a13 :: []))))) 0 (b0 :: b1 :: b2 :: b3 :: b4 :: b5 :: b6 :: b7 :: (s8.map u8 ++ ((s9.map u8 ++ (b10 :: b11 :: b12 :: b13 :: []))))) = b0 :: b1 :: b2 :: b3 :: b4 :: b5 :: b6 :: b7 :: (s8.map u8 ++ ((s9.map u8 ++ (b10 :: b11 :: b12 :: b13 :: [])))) := (spl_a (z := 76) (len_c (n := 75) (len_c (n := 74) (len_c (n := 73) (len_c (n := 72) (len_c (n := 71) (len_c (n := 70) (len_c (n := 69) (len_c (n := 68) (len_b (k := 32) (n := 36) h8 (len_b (k := 32) (n := 4) h9 (len_c (n := 3) (len_c (n := 2) (len_c (n := 1) (len_c (n := 0) len_n)))))))))))))) (len_c (n := 75) (len_c (n := 74) (len_c (n := 73) (len_c (n := 72) (len_c (n := 71) (len_c (n := 70) (len_c (n := 69) (len_c (n := 68) (len_b (k := 32) (n := 36) g8 (len_b (k := 32) (n := 4) g9 (len_c (n := 3) (len_c (n := 2) (len_c (n := 1) (len_c (n := 0) len_n)))))))))))))))
theorem z_field38_1 : fieldB Try.prog 38 1 = some 72 := by kernel_rfl
theorem z_agg3 : aggB Try.prog 3 = some false := by kernel_rfl
theorem q_ix_c8b32b32c4_72 {a0 a1 a2 a3 a4 a5 a6 a7 a10 a11 a12 a13 : Value} {t8 t9 : List UInt8} (h8 : t8.length = 32) (h9 : t9.length = 32) : (a0 :: a1 :: a2 :: a3 :: a4 :: a5 :: a6 :: a7 :: (t8.map u8 ++ ((t9.map u8 ++ (a10 :: a11 :: a12 :: a13 :: [])))))[72]? = some a10 := (ix_c (o := 71) (ix_c (o := 70) (ix_c (o := 69) (ix_c (o := 68) (ix_c (o := 67) (ix_c (o := 66) (ix_c (o := 65) (ix_c (o := 64) (ix_b (k := 32) (o := 32) h8 rfl (ix_b (k := 32) (o := 0) h9 rfl ix_0))))))))))
theorem z_field38_3 : fieldB Try.prog 38 3 = some 74 := by kernel_rfl
theorem q_ix_c8b32b32c4_74 {a0 a1 a2 a3 a4 a5 a6 a7 a10 a11 a12 a13 : Value} {t8 t9 : List UInt8} (h8 : t8.length = 32) (h9 : t9.length = 32) : (a0 :: a1 :: a2 :: a3 :: a4 :: a5 :: a6 :: a7 :: (t8.map u8 ++ ((t9.map u8 ++ (a10 :: a11 :: a12 :: a13 :: [])))))[74]? = some a12 := (ix_c (o := 73) (ix_c (o := 72) (ix_c (o := 71) (ix_c (o := 70) (ix_c (o := 69) (ix_c (o := 68) (ix_c (o := 67) (ix_c (o := 66) (ix_b (k := 32) (o := 34) h8 rfl (ix_b (k := 32) (o := 2) h9 rfl (ix_c (o := 1) (ix_c (o := 0) ix_0))))))))))))
theorem z_field38_4 : fieldB Try.prog 38 4 = some 75 := by kernel_rfl
theorem q_ix_c8b32b32c4_75 {a0 a1 a2 a3 a4 a5 a6 a7 a10 a11 a12 a13 : Value} {t8 t9 : List UInt8} (h8 : t8.length = 32) (h9 : t9.length = 32) : (a0 :: a1 :: a2 :: a3 :: a4 :: a5 :: a6 :: a7 :: (t8.map u8 ++ ((t9.map u8 ++ (a10 :: a11 :: a12 :: a13 :: [])))))[75]? = some a13 := (ix_c (o := 74) (ix_c (o := 73) (ix_c (o := 72) (ix_c (o := 71) (ix_c (o := 70) (ix_c (o := 69) (ix_c (o := 68) (ix_c (o := 67) (ix_b (k := 32) (o := 35) h8 rfl (ix_b (k := 32) (o := 3) h9 rfl (ix_c (o := 2) (ix_c (o := 1) (ix_c (o := 0) ix_0)))))))))))))
theorem z_call19 : callB Try.prog 19 = true := by kernel_rfl

set_option maxRecDepth 100000 in
set_option maxHeartbeats 4000000 in
theorem pawake (w : World) : Calls Try.prog 9 #[] w (Gives (.bool true) [] w) := by
  have wza := Pool.Wait.wf_zero.tx.hand
  have wzb := Pool.Wait.wf_zero.tx.tag
  have wca := Pool.awB_wf.tx.hand
  have wcb := Pool.awB_wf.tx.tag
  have wda := Pool.awC_wf.tx.hand
  have wdb := Pool.awC_wf.tx.tag
  have lz32 : (List.replicate 32 (0 : UInt8)).length = 32 := List.length_replicate
  refine enterL (args := []) Try.func9 rfl rfl (l := []) (Sep.refl _) ?_
  intro a0 H0
  refine wp_seq ?_
  refine reg ?_
  refine plain (y_assign rfl rfl) rfl rfl rfl H0 ?_
  clear H0; intro a1 H1
  refine fin ?_
  refine then_n ?_
  refine wp_seq ?_
  refine reg ?_
  refine st_call rfl z_call8 rfl rfl rfl rfl H1 (pnew 2 (by decide) _) ?_
  clear H1; intro v2 l2 a2 wx2 hf2 H2
  obtain ⟨bp, rfl, rfl⟩ := hf2
  simp only [List.cons_append, List.nil_append] at H2
  refine plain (y_move rfl rfl) rfl rfl rfl H2 ?_
  clear H2; intro a3 H3
  refine plain (y_extract rfl rfl rfl) rfl rfl rfl H3 ?_
  clear H3; intro a4 H4
  refine plain (y_extract rfl rfl rfl) rfl rfl rfl H4 ?_
  clear H4; intro a5 H5
  refine plain (y_assign rfl rfl) rfl rfl rfl H5 ?_
  clear H5; intro a6 H6
  refine plain (y_assign rfl rfl) rfl rfl rfl H6 ?_
  clear H6; intro a7 H7
  refine fin ?_
  refine then_n ?_
  refine wp_seq ?_
  refine wp_seq ?_
  refine reg ?_
  refine plain (y_move rfl rfl) rfl rfl rfl H7 ?_
  clear H7; intro a8 H8
  refine plain (y_neq rfl rfl rfl) rfl rfl rfl H8 ?_
  clear H8; intro a9 H9
  refine plain (y_move rfl rfl) rfl rfl rfl H9 ?_
  clear H9; intro a10 H10
  have H12 := H10.know (d := 17) (v := .bool false) rfl (congrArg Value.bool (decide_eq_false (by decide)))
  clear H10
  refine plain (y_move rfl rfl) rfl rfl rfl H12 ?_
  clear H12; intro a13 H13
  refine plain (y_peql rfl Try.underlying24 rfl rfl) rfl rfl rfl H13 ?_
  clear H13; intro a14 H14
  refine plain (y_pick_f rfl rfl rfl) rfl rfl rfl H14 ?_
  clear H14; intro a15 H15
  refine fin ?_
  refine then_n ?_
  refine cnd H15 rfl (fun hc16 => ?_) (fun hc16 => ?_) -- cond 1
  · (try simp only [decide_eq_true_eq, decide_eq_false_iff_not, Bool.not_eq_true', Bool.not_eq_false', Bool.and_eq_true, Bool.not_eq_true, Bool.not_eq_false] at hc16); (exfalso; simp at hc16)
  · skip
    try simp only [decide_eq_true_eq, decide_eq_false_iff_not, Bool.not_eq_true', Bool.not_eq_false', Bool.and_eq_true, Bool.not_eq_true, Bool.not_eq_false] at hc16
    refine wp_skip ?_
    refine then_n ?_
    refine wp_seq ?_
    refine reg ?_
    refine plain (y_move rfl rfl) rfl rfl rfl H15 ?_
    clear H15; intro a17 H17
    refine plain (y_build rfl z_zeroN36 z_places36 rfl (lay_1 (off := 1) (n := 72) rfl (q_len_c8b32b32 (by assumption) (by assumption)) (by decide) q_spl_c8b32b32_1_c1 lay_n (by rfl))) rfl rfl rfl H17 ?_
    clear H17; intro a18 H18
    refine plain (y_build rfl z_zeroN38 z_places38 rfl (lay_f (off := 0) (z := 72) (n := 76) rfl (agg_cells _) (q_len_c8b32b32 (by assumption) (by assumption)) (q_len_c8b32b32c4 (by assumption) (by assumption)) (by decide) (q_spl_c8b32b32c4_0_c8b32b32 (by assumption) (by assumption) (by assumption) (by assumption)) (lay_1 (off := 74) (n := 76) rfl (q_len_c8b32b32c4 (by assumption) (by assumption)) (by decide) (q_spl_c8b32b32c4_74_c1 (by assumption) (by assumption)) (lay_1 (off := 73) (n := 76) rfl (q_len_c8b32b32c4 (by assumption) (by assumption)) (by decide) (q_spl_c8b32b32c4_73_c1 (by assumption) (by assumption)) lay_n (by rfl)) (by rfl)))) rfl rfl rfl H18 ?_
    clear H18; intro a19 H19
    refine st_callk2 (is := [It.row 38 76 (.slice none 0 0) [].length (Pool.wc []), It.blk bp 63 [i64 2, (.slice none 0 0)]]) (enters_call rfl z_call10 rfl) rfl rfl rfl H19 (.cons (by repeat (first | exact Ph | apply Pt)) (.cons (by repeat (first | exact Ph | apply Pt)) (.nil _))) (fun hs => pput [] Pool.wf_nil 2 bp (.slice none 0 0) (by decide) Pool.aw_g0 Pool.awA Pool.awA_wf hs) ?_
    clear H19; intro v20 l20 a20 wx20 hf20 H20
    rw [Pool.aw_put1] at hf20
    obtain ⟨rfl, v1, rfl⟩ := hf20
    simp only [List.cons_append, List.nil_append] at H20
    refine fin ?_
    refine then_n ?_
    refine wp_seq ?_
    refine reg ?_
    refine plain (y_move rfl rfl) rfl rfl rfl H20 ?_
    clear H20; intro a21 H21
    refine plain (y_build rfl z_zeroN38 z_places38 rfl (lay_1 (off := 72) (n := 76) rfl (q_len_c8b32b32c4 (by assumption) (by assumption)) (by decide) (q_spl_c8b32b32c4_72_c1 (by assumption) (by assumption)) (lay_1 (off := 74) (n := 76) rfl (q_len_c8b32b32c4 (by assumption) (by assumption)) (by decide) (q_spl_c8b32b32c4_74_c1 (by assumption) (by assumption)) (lay_1 (off := 75) (n := 76) rfl (q_len_c8b32b32c4 (by assumption) (by assumption)) (by decide) (q_spl_c8b32b32c4_75_c1 (by assumption) (by assumption)) (lay_1 (off := 73) (n := 76) rfl (q_len_c8b32b32c4 (by assumption) (by assumption)) (by decide) (q_spl_c8b32b32c4_73_c1 (by assumption) (by assumption)) lay_n (by rfl)) (by rfl)) (by rfl)) (by rfl))) rfl rfl rfl H21 ?_
    clear H21; intro a22 H22
    refine st_callk2 (is := [It.row 38 76 v1 [Pool.awA].length (Pool.wc [Pool.awA]), It.blk bp 63 [i64 2, v1]]) (enters_call rfl z_call10 rfl) rfl rfl rfl H22 (.cons (by repeat (first | exact Ph | apply Pt)) (.cons (by repeat (first | exact Ph | apply Pt)) (.nil _))) (fun hs => pput [Pool.awA] Pool.aw_w1 2 bp v1 (by decide) Pool.aw_g1 Pool.awB Pool.awB_wf hs) ?_
    clear H22; intro v23 l23 a23 wx23 hf23 H23
    rw [Pool.aw_put2] at hf23
    obtain ⟨rfl, v2, rfl⟩ := hf23
    simp only [List.cons_append, List.nil_append] at H23
    refine fin ?_
    refine then_n ?_
    refine wp_seq ?_
    refine reg ?_
    refine st_alloc rfl z_zeroN3 rfl rfl rfl H23 ?_
    clear H23; intro b24 a24 wx24 H24
    refine st_store1N rfl z_size3 rfl rfl rfl (by repeat (first | exact Uh | apply Ut)) q_len_c1 q_set_c1_0 (by decide) rfl rfl H24 ?_
    clear H24; intro wx25 H25
    refine fin ?_
    refine then_n ?_
    refine wp_seq ?_
    refine reg ?_
    refine plain (y_fn rfl rfl rfl) rfl rfl rfl H25 ?_
    clear H25; intro a26 H26
    refine plain (y_assign rfl rfl) rfl rfl rfl H26 ?_
    clear H26; intro a27 H27
    refine fin ?_
    refine then_n ?_
    refine wp_seq ?_
    refine reg ?_
    refine plain (y_move rfl rfl) rfl rfl rfl H27 ?_
    clear H27; intro a28 H28
    refine plain (y_move rfl rfl) rfl rfl rfl H28 ?_
    clear H28; intro a29 H29
    refine st_callk2 (is := [It.row 38 76 v2 [Pool.awA, Pool.awB].length (Pool.wc [Pool.awA, Pool.awB]), It.blk bp 63 [i64 2, v2]]) (enters_call rfl z_call15 rfl) rfl rfl rfl H29 (.cons (by repeat (first | exact Ph | apply Pt)) (.cons (by repeat (first | exact Ph | apply Pt)) (.nil _))) (fun hs => pnext [Pool.awA, Pool.awB] Pool.aw_w2 2 bp v2 (by decide) Pool.aw_g2 (List.replicate 64 0) 4 24 (.pointer (some ⟨b24, 0, none⟩)) hs (by kernel_rfl) (fun w' hF q hq => by rw [Pool.rep_at 0 hq]; exact pawc b24 0 q (Sep.kept H29.sep (.cons (by repeat (first | exact Ph | apply Pt)) (.cons (by repeat (first | exact Ph | apply Pt)) (.nil _))) (by repeat (first | exact Mh | apply Mt)) hF))) ?_
    clear H29; intro v30 l30 a30 wx30 hf30 H30
    rw [Pool.aw_next1] at hf30
    obtain ⟨rfl, v3, rfl⟩ := hf30
    simp only [List.cons_append, List.nil_append] at H30
    refine plain (y_move rfl rfl) rfl rfl rfl H30 ?_
    clear H30; intro a31 H31
    refine plain (y_extract rfl rfl rfl) rfl rfl rfl H31 ?_
    clear H31; intro a32 H32
    refine plain (y_extract rfl rfl rfl) rfl rfl rfl H32 ?_
    clear H32; intro a33 H33
    refine st_alloc rfl z_zeroN38 rfl rfl rfl H33 ?_
    clear H33; intro b34 a34 wx34 H34
    refine st_storeN rfl z_size38 rfl rfl (agg_cells _) (by repeat (first | exact Uh | apply Ut)) (q_one_c8b32b32c4 rfl rfl rfl rfl rfl rfl rfl rfl rfl rfl rfl rfl) (q_len_c8b32b32c4 (by assumption) (by assumption)) (q_len_c8b32b32c4 (by assumption) (by assumption)) (q_spl_c8b32b32c4_0_c8b32b32c4 (by assumption) (by assumption) (by assumption) (by assumption)) (by decide) rfl rfl H34 ?_
    clear H34; intro wx35 H35
    refine plain (y_assign rfl rfl) rfl rfl rfl H35 ?_
    clear H35; intro a36 H36
    refine fin ?_
    refine then_n ?_
    refine wp_seq ?_
    refine reg ?_
    refine plain (y_move rfl rfl) rfl rfl rfl H36 ?_
    clear H36; intro a37 H37
    refine plain (y_move rfl rfl) rfl rfl rfl H37 ?_
    clear H37; intro a38 H38
    refine st_callk2 (is := [It.row 38 76 v3 [Pool.awA, Pool.awB].length (Pool.wc [Pool.awA, Pool.awB]), It.blk bp 63 [i64 2, v3]]) (enters_call rfl z_call15 rfl) rfl rfl rfl H38 (.cons (by repeat (first | exact Ph | apply Pt)) (.cons (by repeat (first | exact Ph | apply Pt)) (.nil _))) (fun hs => pnext [Pool.awA, Pool.awB] Pool.aw_w2 2 bp v3 (by decide) Pool.aw_g2 (List.replicate 64 0) 5 24 (.pointer (some ⟨b24, 0, none⟩)) hs (by kernel_rfl) (fun w' hF q hq => by rw [Pool.rep_at 0 hq]; exact pawc b24 0 q (Sep.kept H38.sep (.cons (by repeat (first | exact Ph | apply Pt)) (.cons (by repeat (first | exact Ph | apply Pt)) (.nil _))) (by repeat (first | exact Mh | apply Mt)) hF))) ?_
    clear H38; intro v39 l39 a39 wx39 hf39 H39
    rw [Pool.aw_next2] at hf39
    obtain ⟨rfl, v4, rfl⟩ := hf39
    simp only [List.cons_append, List.nil_append] at H39
    refine plain (y_move rfl rfl) rfl rfl rfl H39 ?_
    clear H39; intro a40 H40
    refine plain (y_extract rfl rfl rfl) rfl rfl rfl H40 ?_
    clear H40; intro a41 H41
    refine plain (y_extract rfl rfl rfl) rfl rfl rfl H41 ?_
    clear H41; intro a42 H42
    refine st_alloc rfl z_zeroN38 rfl rfl rfl H42 ?_
    clear H42; intro b43 a43 wx43 H43
    refine st_storeN rfl z_size38 rfl rfl (agg_cells _) (by repeat (first | exact Uh | apply Ut)) (q_one_c8b32b32c4 rfl rfl rfl rfl rfl rfl rfl rfl rfl rfl rfl rfl) (q_len_c8b32b32c4 (by assumption) (by assumption)) (q_len_c8b32b32c4 (by assumption) (by assumption)) (q_spl_c8b32b32c4_0_c8b32b32c4 (by assumption) (by assumption) (by assumption) (by assumption)) (by decide) rfl rfl H43 ?_
    clear H43; intro wx44 H44
    refine plain (y_assign rfl rfl) rfl rfl rfl H44 ?_
    clear H44; intro a45 H45
    refine fin ?_
    refine then_n ?_
    refine wp_seq ?_
    refine reg ?_
    refine st_store1N rfl z_size3 rfl rfl rfl (by repeat (first | exact Uh | apply Ut)) q_len_c1 q_set_c1_0 (by decide) rfl rfl H45 ?_
    clear H45; intro wx46 H46
    refine fin ?_
    refine then_n ?_
    refine wp_seq ?_
    refine reg ?_
    refine plain (y_move rfl rfl) rfl rfl rfl H46 ?_
    clear H46; intro a47 H47
    refine plain (y_move rfl rfl) rfl rfl rfl H47 ?_
    clear H47; intro a48 H48
    refine st_callk2 (is := [It.row 38 76 v4 [Pool.awC].length (Pool.wc [Pool.awC]), It.blk bp 63 [i64 2, v4]]) (enters_call rfl z_call15 rfl) rfl rfl rfl H48 (.cons (by repeat (first | exact Ph | apply Pt)) (.cons (by repeat (first | exact Ph | apply Pt)) (.nil _))) (fun hs => pnext [Pool.awC] Pool.aw_w3 2 bp v4 (by decide) Pool.aw_g3 (List.replicate 64 1) 5 24 (.pointer (some ⟨b24, 0, none⟩)) hs (by kernel_rfl) (fun w' hF q hq => by rw [Pool.rep_at 1 hq]; exact pawc b24 1 q (Sep.kept H48.sep (.cons (by repeat (first | exact Ph | apply Pt)) (.cons (by repeat (first | exact Ph | apply Pt)) (.nil _))) (by repeat (first | exact Mh | apply Mt)) hF))) ?_
    clear H48; intro v49 l49 a49 wx49 hf49 H49
    rw [Pool.aw_next3] at hf49
    obtain ⟨rfl, v5, rfl⟩ := hf49
    simp only [List.cons_append, List.nil_append] at H49
    refine plain (y_move rfl rfl) rfl rfl rfl H49 ?_
    clear H49; intro a50 H50
    refine plain (y_extract rfl rfl rfl) rfl rfl rfl H50 ?_
    clear H50; intro a51 H51
    refine plain (y_extract rfl rfl rfl) rfl rfl rfl H51 ?_
    clear H51; intro a52 H52
    refine st_alloc rfl z_zeroN38 rfl rfl rfl H52 ?_
    clear H52; intro b53 a53 wx53 H53
    refine st_storeN rfl z_size38 rfl rfl (agg_cells _) (by repeat (first | exact Uh | apply Ut)) (q_one_c8b32b32c4 rfl rfl rfl rfl rfl rfl rfl rfl rfl rfl rfl rfl) (q_len_c8b32b32c4 (by assumption) (by assumption)) (q_len_c8b32b32c4 (by assumption) (by assumption)) (q_spl_c8b32b32c4_0_c8b32b32c4 (by assumption) (by assumption) (by assumption) (by assumption)) (by decide) rfl rfl H53 ?_
    clear H53; intro wx54 H54
    refine plain (y_assign rfl rfl) rfl rfl rfl H54 ?_
    clear H54; intro a55 H55
    refine fin ?_
    refine then_n ?_
    refine wp_seq ?_
    refine reg ?_
    refine plain (y_move rfl rfl) rfl rfl rfl H55 ?_
    clear H55; intro a56 H56
    refine plain ((by first | exact y_not_d rfl rfl | exact y_not rfl rfl)) rfl rfl rfl H56 ?_
    clear H56; intro a57 H57
    refine plain (y_move rfl rfl) rfl rfl rfl H57 ?_
    clear H57; intro a58 H58
    have H60 := H58.know (d := 49) (v := .bool true) rfl ((by first | rfl | exact congrArg Value.bool (decide_eq_true (by decide))))
    clear H58
    refine plain (y_move rfl rfl) rfl rfl rfl H60 ?_
    clear H60; intro a61 H61
    refine plain (y_pick_t rfl rfl rfl) rfl rfl rfl H61 ?_
    clear H61; intro a62 H62
    refine plain (y_move rfl rfl) rfl rfl rfl H62 ?_
    clear H62; intro a63 H63
    have H65 := H63.know (d := 52) (v := .bool true) rfl ((by first | rfl | exact congrArg Value.bool (decide_eq_true (by decide))))
    clear H63
    refine plain (y_move rfl rfl) rfl rfl rfl H65 ?_
    clear H65; intro a66 H66
    refine plain (y_pick_t rfl rfl rfl) rfl rfl rfl H66 ?_
    clear H66; intro a67 H67
    refine plain (y_move rfl rfl) rfl rfl rfl H67 ?_
    clear H67; intro a68 H68
    have H70 := H68.know (d := 55) (v := .bool true) rfl ((by first | rfl | exact congrArg Value.bool (decide_eq_true (by decide))))
    clear H68
    refine plain (y_fieldB rfl z_field38_1 rfl (by first | (simp only [Nat.zero_add, Nat.add_zero, Nat.reduceAdd]; rfl) | rfl)) rfl rfl rfl H70 ?_
    clear H70; intro a71 H71
    refine plain (y_loadB rfl z_agg3 rfl (by repeat (first | exact Mh | apply Mt)) (q_ix_c8b32b32c4_72 (by assumption) (by assumption))) rfl rfl rfl H71 ?_
    clear H71; intro a72 H72
    refine plain (y_eql rfl rfl rfl) rfl rfl rfl H72 ?_
    clear H72; intro a73 H73
    refine plain (y_pick_t rfl rfl rfl) rfl rfl rfl H73 ?_
    clear H73; intro a74 H74
    refine plain (y_move rfl rfl) rfl rfl rfl H74 ?_
    clear H74; intro a75 H75
    have H77 := H75.know (d := 60) (v := .bool true) rfl ((by first | rfl | exact congrArg Value.bool (decide_eq_true (by decide))))
    clear H75
    refine plain (y_fieldB rfl z_field38_3 rfl (by first | (simp only [Nat.zero_add, Nat.add_zero, Nat.reduceAdd]; rfl) | rfl)) rfl rfl rfl H77 ?_
    clear H77; intro a78 H78
    refine plain (y_loadB rfl z_agg3 rfl (by repeat (first | exact Mh | apply Mt)) (q_ix_c8b32b32c4_74 (by assumption) (by assumption))) rfl rfl rfl H78 ?_
    clear H78; intro a79 H79
    refine plain (y_eql rfl rfl rfl) rfl rfl rfl H79 ?_
    clear H79; intro a80 H80
    refine plain (y_pick_t rfl rfl rfl) rfl rfl rfl H80 ?_
    clear H80; intro a81 H81
    refine plain (y_move rfl rfl) rfl rfl rfl H81 ?_
    clear H81; intro a82 H82
    have H84 := H82.know (d := 65) (v := .bool true) rfl ((by first | rfl | exact congrArg Value.bool (decide_eq_true (by decide))))
    clear H82
    refine plain (y_fieldB rfl z_field38_4 rfl (by first | (simp only [Nat.zero_add, Nat.add_zero, Nat.reduceAdd]; rfl) | rfl)) rfl rfl rfl H84 ?_
    clear H84; intro a85 H85
    refine plain (y_loadB rfl z_agg3 rfl (by repeat (first | exact Mh | apply Mt)) (q_ix_c8b32b32c4_75 (by assumption) (by assumption))) rfl rfl rfl H85 ?_
    clear H85; intro a86 H86
    refine plain (y_eql rfl rfl rfl) rfl rfl rfl H86 ?_
    clear H86; intro a87 H87
    refine plain (y_pick_t rfl rfl rfl) rfl rfl rfl H87 ?_
    clear H87; intro a88 H88
    refine plain (y_move rfl rfl) rfl rfl rfl H88 ?_
    clear H88; intro a89 H89
    have H91 := H89.know (d := 70) (v := .bool true) rfl ((by first | rfl | exact congrArg Value.bool (decide_eq_true (by decide))))
    clear H89
    refine plain (y_move rfl rfl) rfl rfl rfl H91 ?_
    clear H91; intro a92 H92
    refine st_callg rfl z_call19 rfl rfl rfl rfl H92 (plen [] Pool.wf_nil 2 bp v5 (by decide) (H92.sep.all _ (by repeat (first | exact Mh | apply Mt))) (H92.sep.all _ (by repeat (first | exact Mh | apply Mt)))) ?_
    clear H92; intro a93 wx93 H93
    refine plain (y_eql rfl rfl rfl) rfl rfl rfl H93 ?_
    clear H93; intro a94 H94
    refine plain (y_pick_t rfl rfl rfl) rfl rfl rfl H94 ?_
    clear H94; intro a95 H95
    refine plain (y_assign rfl rfl) rfl rfl rfl H95 ?_
    clear H95; intro a96 H96
    refine fin ?_
    refine then_n ?_
    refine wp_ret ?_
    -- return 1
    refine ret1 rfl H96 rfl ?_
    exact ⟨_, [], rfl, ⟨congrArg Value.bool (decide_eq_true (by decide)), rfl⟩, H96.sep.sub (List.nil_sublist _)⟩

end Go.Proofs.Ytbdkgmkaakoigaa.P_Aw

set_option linter.unusedVariables false
set_option linter.unusedSimpArgs false
namespace Go.Proofs.Ytbdkgmkaakoigaa.P_Old
open Go.Sx Go.RowKit

theorem z_field63_1 : fieldB Try.prog 63 1 = some 1 := by kernel_rfl
theorem z_agg30 : aggB Try.prog 30 = some false := by kernel_rfl
theorem q_ix_c2_1 {a0 a1 : Value} : (a0 :: a1 :: [])[1]? = some a1 := (ix_c (o := 0) ix_0)
theorem z_size38 : sizeB Try.prog 38 = some 76 := by kernel_rfl
theorem z_agg38 : aggB Try.prog 38 = some true := by kernel_rfl
theorem z_zeroN38 : zeroL Try.prog 38 = some ((.int .i64 0 :: (.int .i64 0 :: (.int .i64 0 :: (.int .i64 0 :: (.string ⟨#[]⟩ :: (.bool false :: (.int .i64 0 :: (.int .i64 0 :: ((List.replicate 32 (0 : UInt8)).map u8 ++ ((List.replicate 32 (0 : UInt8)).map u8 ++ (.int .i64 0 :: (.int .i64 0 :: (.int .i64 0 :: (.int .i64 0 :: []))))))))))))))) := by kernel_rfl
theorem q_one_c8b32b32c4 {a0 a1 a2 a3 a4 a5 a6 a7 a10 a11 a12 a13 : Value} {t8 t9 : List UInt8} (o0 : a0.oneCell' = true) (o1 : a1.oneCell' = true) (o2 : a2.oneCell' = true) (o3 : a3.oneCell' = true) (o4 : a4.oneCell' = true) (o5 : a5.oneCell' = true) (o6 : a6.oneCell' = true) (o7 : a7.oneCell' = true) (o10 : a10.oneCell' = true) (o11 : a11.oneCell' = true) (o12 : a12.oneCell' = true) (o13 : a13.oneCell' = true) : (a0 :: a1 :: a2 :: a3 :: a4 :: a5 :: a6 :: a7 :: (t8.map u8 ++ ((t9.map u8 ++ (a10 :: a11 :: a12 :: a13 :: []))))).all (·.oneCell') = true := (one_c o0 (one_c o1 (one_c o2 (one_c o3 (one_c o4 (one_c o5 (one_c o6 (one_c o7 (one_b (one_b (one_c o10 (one_c o11 (one_c o12 (one_c o13 one_n))))))))))))))
theorem q_len_c8b32b32c4 {a0 a1 a2 a3 a4 a5 a6 a7 a10 a11 a12 a13 : Value} {t8 t9 : List UInt8} (h8 : t8.length = 32) (h9 : t9.length = 32) : (a0 :: a1 :: a2 :: a3 :: a4 :: a5 :: a6 :: a7 :: (t8.map u8 ++ ((t9.map u8 ++ (a10 :: a11 :: a12 :: a13 :: []))))).length = 76 := (len_c (n := 75) (len_c (n := 74) (len_c (n := 73) (len_c (n := 72) (len_c (n := 71) (len_c (n := 70) (len_c (n := 69) (len_c (n := 68) (len_b (k := 32) (n := 36) h8 (len_b (k := 32) (n := 4) h9 (len_c (n := 3) (len_c (n := 2) (len_c (n := 1) (len_c (n := 0) len_n))))))))))))))
theorem q_spl_c8b32b32c4_0_c8b32b32c4 {a0 a1 a2 a3 a4 a5 a6 a7 a10 a11 a12 a13 : Value} {t8 t9 : List UInt8} {b0 b1 b2 b3 b4 b5 b6 b7 b10 b11 b12 b13 : Value} {s8 s9 : List UInt8} (h8 : t8.length = 32) (h9 : t9.length = 32) (g8 : s8.length = 32) (g9 : s9.length = 32) : spl (a0 :: a1 :: a2 :: a3 :: a4 :: a5 :: a6 :: a7 :: (t8.map u8 ++ ((t9.map u8 ++ (a10 :: a11 :: a12 :: a13 :: []))))) 0 (b0 :: b1 :: b2 :: b3 :: b4 :: b5 :: b6 :: b7 :: (s8.map u8 ++ ((s9.map u8 ++ (b10 :: b11 :: b12 :: b13 :: []))))) = b0 :: b1 :: b2 :: b3 :: b4 :: b5 :: b6 :: b7 :: (s8.map u8 ++ ((s9.map u8 ++ (b10 :: b11 :: b12 :: b13 :: [])))) := (spl_a (z := 76) (len_c (n := 75) (len_c (n := 74) (len_c (n := 73) (len_c (n := 72) (len_c (n := 71) (len_c (n := 70) (len_c (n := 69) (len_c (n := 68) (len_b (k := 32) (n := 36) h8 (len_b (k := 32) (n := 4) h9 (len_c (n := 3) (len_c (n := 2) (len_c (n := 1) (len_c (n := 0) len_n)))))))))))))) (len_c (n := 75) (len_c (n := 74) (len_c (n := 73) (len_c (n := 72) (len_c (n := 71) (len_c (n := 70) (len_c (n := 69) (len_c (n := 68) (len_b (k := 32) (n := 36) g8 (len_b (k := 32) (n := 4) g9 (len_c (n := 3) (len_c (n := 2) (len_c (n := 1) (len_c (n := 0) len_n)))))))))))))))
theorem z_field38_2 : fieldB Try.prog 38 2 = some 73 := by kernel_rfl
theorem z_agg3 : aggB Try.prog 3 = some false := by kernel_rfl
theorem q_ix_c8b32b32c4_73 {a0 a1 a2 a3 a4 a5 a6 a7 a10 a11 a12 a13 : Value} {t8 t9 : List UInt8} (h8 : t8.length = 32) (h9 : t9.length = 32) : (a0 :: a1 :: a2 :: a3 :: a4 :: a5 :: a6 :: a7 :: (t8.map u8 ++ ((t9.map u8 ++ (a10 :: a11 :: a12 :: a13 :: [])))))[73]? = some a11 := (ix_c (o := 72) (ix_c (o := 71) (ix_c (o := 70) (ix_c (o := 69) (ix_c (o := 68) (ix_c (o := 67) (ix_c (o := 66) (ix_c (o := 65) (ix_b (k := 32) (o := 33) h8 rfl (ix_b (k := 32) (o := 1) h9 rfl (ix_c (o := 0) ix_0)))))))))))
theorem q_ld_c8b32b32c4_0_76 {a0 a1 a2 a3 a4 a5 a6 a7 a10 a11 a12 a13 : Value} {t8 t9 : List UInt8} (h8 : t8.length = 32) (h9 : t9.length = 32) : ((a0 :: a1 :: a2 :: a3 :: a4 :: a5 :: a6 :: a7 :: (t8.map u8 ++ ((t9.map u8 ++ (a10 :: a11 :: a12 :: a13 :: []))))).drop 0).take 76 = a0 :: a1 :: a2 :: a3 :: a4 :: a5 :: a6 :: a7 :: (t8.map u8 ++ ((t9.map u8 ++ (a10 :: a11 :: a12 :: a13 :: [])))) := (ld_a (len_c (n := 75) (len_c (n := 74) (len_c (n := 73) (len_c (n := 72) (len_c (n := 71) (len_c (n := 70) (len_c (n := 69) (len_c (n := 68) (len_b (k := 32) (n := 36) h8 (len_b (k := 32) (n := 4) h9 (len_c (n := 3) (len_c (n := 2) (len_c (n := 1) (len_c (n := 0) len_n)))))))))))))))
theorem z_zero38 : zeroL Try.prog 38 = some ([.int .i64 0, .int .i64 0, .int .i64 0, .int .i64 0, .string ⟨#[]⟩, .bool false, .int .i64 0, .int .i64 0, .int .u8 0, .int .u8 0, .int .u8 0, .int .u8 0, .int .u8 0, .int .u8 0, .int .u8 0, .int .u8 0, .int .u8 0, .int .u8 0, .int .u8 0, .int .u8 0, .int .u8 0, .int .u8 0, .int .u8 0, .int .u8 0, .int .u8 0, .int .u8 0, .int .u8 0, .int .u8 0, .int .u8 0, .int .u8 0, .int .u8 0, .int .u8 0, .int .u8 0, .int .u8 0, .int .u8 0, .int .u8 0, .int .u8 0, .int .u8 0, .int .u8 0, .int .u8 0, .int .u8 0, .int .u8 0, .int .u8 0, .int .u8 0, .int .u8 0, .int .u8 0, .int .u8 0, .int .u8 0, .int .u8 0, .int .u8 0, .int .u8 0, .int .u8 0, .int .u8 0, .int .u8 0, .int .u8 0, .int .u8 0, .int .u8 0, .int .u8 0, .int .u8 0, .int .u8 0, .int .u8 0, .int .u8 0, .int .u8 0, .int .u8 0, .int .u8 0, .int .u8 0, .int .u8 0, .int .u8 0, .int .u8 0, .int .u8 0, .int .u8 0, .int .u8 0, .int .i64 0, .int .i64 0, .int .i64 0, .int .i64 0]) := by kernel_rfl
theorem z_slice30 : sliceB Try.prog 30 = some (38, 76, 168) := by kernel_rfl
theorem z_notint30 : notIntB Try.prog 30 = true := by kernel_rfl
theorem z_size30 : sizeB Try.prog 30 = some 1 := by kernel_rfl
theorem q_len_c2 {a0 a1 : Value} : (a0 :: a1 :: []).length = 2 := (len_c (n := 1) (len_c (n := 0) len_n))
theorem q_set_c2_1 {a0 a1 : Value} {v : Value} : (a0 :: a1 :: []).set 1 v = a0 :: v :: [] := (set_c (o := 0) set_0)

set_option maxRecDepth 100000 in
set_option maxHeartbeats 2000000 in
theorem pold (L : List Pool.Wait) (hL : Pool.Wfs L) (size : Int) (bp : Nat) (v : Value) (hlen : L.length ≤ 1000) (now : Int) {w : World} (hs : Sep (fps [It.row 38 76 v L.length (Pool.wc L), It.blk bp 63 [i64 size, v]]) w w [It.row 38 76 v L.length (Pool.wc L), It.blk bp 63 [i64 size, v]]) : Calls Try.prog 13 #[.pointer (some ⟨bp, 0, none⟩), .int .i64 now] w (Post (fps [It.row 38 76 v L.length (Pool.wc L), It.blk bp 63 [i64 size, v]]) w fun u l' => ∃ v', l' = [It.row 38 76 u (L.filter (Pool.isOld now)).length (Pool.wc (L.filter (Pool.isOld now))), It.row 38 76 v' (L.filter fun w => !Pool.isOld now w).length (Pool.wc (L.filter fun w => !Pool.isOld now w)), It.blk bp 63 [i64 size, v']]) := by
  obtain ⟨A, cc, rfl, hRx, hmx⟩ := row_shape (v := v) hs (by repeat (first | exact Mh | apply Mt))
  have hcap := row_cap (A := A) (c := cc) hs (by repeat (first | exact Mh | apply Mt))
  have lz32 : (List.replicate 32 (0 : UInt8)).length = 32 := List.length_replicate
  refine enterL (args := [.pointer (some ⟨bp, 0, none⟩), .int .i64 now]) Try.func13 rfl rfl (l := [It.row 38 76 (.slice A L.length cc) L.length (Pool.wc L), It.blk bp 63 [i64 size, (.slice A L.length cc)]]) hs ?_
  intro a0 H0
  refine wp_seq ?_
  refine reg ?_
  refine plain (y_assign rfl rfl) rfl rfl rfl H0 ?_
  clear H0; intro a1 H1
  refine fin ?_
  refine then_n ?_
  refine wp_seq ?_
  refine reg ?_
  refine plain (y_assign rfl rfl) rfl rfl rfl H1 ?_
  clear H1; intro a2 H2
  refine plain (y_assign rfl rfl) rfl rfl rfl H2 ?_
  clear H2; intro a3 H3
  refine fin ?_
  refine then_n ?_
  refine wp_seq ?_
  refine wp_seq ?_
  refine reg ?_
  refine plain (y_move rfl rfl) rfl rfl rfl H3 ?_
  clear H3; intro a4 H4
  refine plain (y_peql rfl Try.underlying24 rfl rfl) rfl rfl rfl H4 ?_
  clear H4; intro a5 H5
  refine fin ?_
  refine then_n ?_
  refine cnd_f H5 rfl ?_
  refine wp_skip ?_
  refine then_n ?_
  refine wp_seq ?_
  refine wp_seq ?_
  refine reg ?_
  refine plain (y_move rfl rfl) rfl rfl rfl H5 ?_
  clear H5; intro a7 H7
  refine plain (y_nilCheck rfl rfl) rfl rfl rfl H7 ?_
  clear H7; intro a8 H8
  refine plain (y_fieldB rfl z_field63_1 rfl (by first | (simp only [Nat.zero_add, Nat.add_zero, Nat.reduceAdd]; rfl) | rfl)) rfl rfl rfl H8 ?_
  clear H8; intro a9 H9
  refine plain (y_loadB rfl z_agg30 rfl (by repeat (first | exact Mh | apply Mt)) q_ix_c2_1) rfl rfl rfl H9 ?_
  clear H9; intro a10 H10
  refine plain (y_len rfl Try.underlying30 rfl) rfl rfl rfl H10 ?_
  clear H10; intro a11 H11
  refine plain (y_move rfl rfl) rfl rfl rfl H11 ?_
  clear H11; intro a12 H12
  refine fin ?_
  refine then_n ?_
  refine wp_block ?_
  replace H12 := H12.nilRow 38 76
  replace H12 := H12.nilRow 38 76
  refine loop (ι := Nat × (Value × Value)) (fun y => [(0, .pointer (some ⟨bp, 0, none⟩)), (1, .int .i64 now), (5, y.2.1), (6, y.2.2), (14, (.slice A L.length cc)), (15, .int .i64 (L.length : Int)), (16, .int .i64 (y.1 : Int))]) (fun y => [It.row 38 76 y.2.1 ((L.take y.1).filter (Pool.isOld now)).length (Pool.wc ((L.take y.1).filter (Pool.isOld now))), It.row 38 76 y.2.2 ((L.take y.1).filter fun w => !Pool.isOld now w).length (Pool.wc ((L.take y.1).filter fun w => !Pool.isOld now w)), It.row 38 76 (.slice A L.length cc) L.length (Pool.wc L), It.blk bp 63 [i64 size, (.slice A L.length cc)]]) (fun y => y.1 ≤ L.length) (fun y => L.length - y.1) ((0, (.slice none 0 0, .slice none 0 0))) (Nat.zero_le _) (H12.weak ⟨rfl, rfl, rfl, rfl, rfl, rfl, rfl, trivial⟩ rfl) ?_
  clear H12; intro y a13 wx13 hok13 H13
  obtain ⟨k, v1, v2⟩ := y
  dsimp only at hok13 H13
  have hok := hok13
  obtain ⟨A1, c1, rfl, hR1, hm1⟩ := row_shape (v := v1) H13.sep (by repeat (first | exact Mh | apply Mt))
  obtain ⟨A2, c2, rfl, hR2, hm2⟩ := row_shape (v := v2) H13.sep (by repeat (first | exact Mh | apply Mt))
  refine wp_seq ?_
  refine reg ?_
  refine plain (y_lss rfl rfl rfl) rfl rfl rfl H13 ?_
  clear H13; intro a14 H14
  refine fin ?_
  refine then_n ?_
  refine wp_seq ?_
  refine cnd H14 rfl (fun hc15 => ?_) (fun hc15 => ?_) -- cond 2
  · skip
    try simp only [decide_eq_true_eq, decide_eq_false_iff_not, Bool.not_eq_true', Bool.not_eq_false', Bool.and_eq_true, Bool.not_eq_true, Bool.not_eq_false] at hc15
    refine wp_skip ?_
    refine then_n ?_
    refine wp_seq ?_
    refine wp_block ?_
    refine wp_seq ?_
    have hkl : k < L.length := by omega
    have hwk := hL.at_ hkl
    have whd := hwk.tx.hand
    have wtg := hwk.tx.tag
    have hfl := List.length_filter_le (Pool.isOld now) (L.take k)
    have hfn := List.length_filter_le (fun w => !Pool.isOld now w) (L.take k)
    rw [List.length_take] at hfl hfn
    refine reg ?_
    refine plain (y_ixR rfl Try.underlying30 z_size38 rfl rfl (by omega) (by omega) (rd_row (by repeat (first | exact Mh | apply Mt))) (by rw [Pool.wc_len hL]; omega)) rfl rfl rfl H14 ?_
    clear H14; intro a16 H16
    refine plain (y_loadAS rfl z_agg38 z_size38 rfl (rd_row (by repeat (first | exact Mh | apply Mt))) (show _ = Pool.Wait.cells (L.getD k Pool.Wait.zero) from Pool.wc_take hL k (by omega)) hwk.len (by decide)) rfl rfl rfl H16 ?_
    clear H16; intro a17 H17
    refine st_alloc rfl z_zeroN38 rfl rfl rfl H17 ?_
    clear H17; intro b18 a18 wx18 H18
    refine st_storeN rfl z_size38 rfl rfl (agg_cells _) (by repeat (first | exact Uh | apply Ut)) (q_one_c8b32b32c4 rfl rfl rfl rfl rfl rfl rfl rfl rfl rfl rfl rfl) (q_len_c8b32b32c4 (by assumption) (by assumption)) (q_len_c8b32b32c4 (by assumption) (by assumption)) (q_spl_c8b32b32c4_0_c8b32b32c4 (by assumption) (by assumption) (by assumption) (by assumption)) (by decide) rfl rfl H18 ?_
    clear H18; intro wx19 H19
    refine fin ?_
    refine then_n ?_
    refine wp_seq ?_
    refine reg ?_
    refine plain (y_fieldB rfl z_field38_2 rfl (by first | (simp only [Nat.zero_add, Nat.add_zero, Nat.reduceAdd]; rfl) | rfl)) rfl rfl rfl H19 ?_
    clear H19; intro a20 H20
    refine plain (y_loadB rfl z_agg3 rfl (by repeat (first | exact Mh | apply Mt)) (q_ix_c8b32b32c4_73 (by assumption) (by assumption))) rfl rfl rfl H20 ?_
    clear H20; intro a21 H21
    refine plain (y_move rfl rfl) rfl rfl rfl H21 ?_
    clear H21; intro a22 H22
    refine plain (y_lss rfl rfl rfl) rfl rfl rfl H22 ?_
    clear H22; intro a23 H23
    refine fin ?_
    refine then_n ?_
    refine cnd H23 rfl (fun hc24 => ?_) (fun hc24 => ?_) -- cond 3
    · skip
      try simp only [decide_eq_true_eq, decide_eq_false_iff_not, Bool.not_eq_true', Bool.not_eq_false', Bool.and_eq_true, Bool.not_eq_true, Bool.not_eq_false] at hc24
      have isYes := True.intro
      refine reg ?_
      refine plain (y_move rfl rfl) rfl rfl rfl H23 ?_
      clear H23; intro a25 H25
      refine plain (y_loadAB rfl z_agg38 z_size38 rfl (by repeat (first | exact Mh | apply Mt)) (q_ld_c8b32b32c4_0_76 (by assumption) (by assumption)) (q_len_c8b32b32c4 (by assumption) (by assumption))) rfl rfl rfl H25 ?_
      clear H25; intro a26 H26
      refine st_buildSlice rfl Try.underlying30 z_size38 z_zero38 rfl rfl rfl (lay_agg (agg_cells _) hwk.len rfl) rfl rfl rfl H26 ?_
      clear H26; intro b27 a27 wx27 H27
      refine st_append rfl z_slice30 z_notint30 rfl rfl (fun _ => (by repeat (first | exact Uh | apply Ut))) (fun w hs => Src.slice ((rd_blkA (by repeat (first | exact Mh | apply Mt))) w hs) hwk.len (Pool.wait_cell _)) (by unfold maxLen at *; first | omega | (simp only [List.length_cons, List.length_nil, List.length_append, List.length_map]; omega)) (by omega) rfl rfl rfl H27 ?_
      clear H27; intro v28 a28 wx28 hnil28 H28
      obtain ⟨ArY, crY, hvrY, hRrY, hmrY⟩ := row_shape (v := v28) H28.sep (by repeat (first | exact Mh | apply Mt))
      subst hvrY
      refine plain (y_assign rfl rfl) rfl rfl rfl H28 ?_
      clear H28; intro a29 H29
      refine fin ?_
      refine inb_n ?_
      refine then_n ?_
      refine reg ?_
      refine plain (y_add rfl rfl rfl (by first | exact w64 (by omega) (by omega) | rfl)) rfl rfl rfl H29 ?_
      clear H29; intro a30 H30
      refine plain (y_move rfl rfl) rfl rfl rfl H30 ?_
      clear H30; intro a31 H31
      refine fin ?_
      refine then_n ?_
      first | (have hz := isYes; refine ⟨(k + 1, (.slice ArY (((L.take k).filter (Pool.isOld now)).length + 1) crY, .slice A2 ((L.take k).filter fun w => !Pool.isOld now w).length c2)), by dsimp only; omega, by dsimp only; omega, (H31.drop (List.Sublist.cons _ (List.Sublist.cons _ (List.Sublist.refl _)))).weak ⟨rfl, rfl, rfl, rfl, rfl, rfl, fi rfl (by dsimp only; omega), trivial⟩ ?_⟩ <;> (rw [(Pool.old_yes hkl (by assumption)).1, (Pool.old_yes hkl (by assumption)).2, Pool.wc_append, Pool.wc_one, List.length_append]; rfl)) | (have hz := isNo; refine ⟨(k + 1, (.slice A1 ((L.take k).filter (Pool.isOld now)).length c1, .slice ArN (((L.take k).filter fun w => !Pool.isOld now w).length + 1) crN)), by dsimp only; omega, by dsimp only; omega, (H31.drop (List.Sublist.cons _ (List.Sublist.cons _ (List.Sublist.refl _)))).weak ⟨rfl, rfl, rfl, rfl, rfl, rfl, fi rfl (by dsimp only; omega), trivial⟩ ?_⟩ <;> (rw [(Pool.old_no hkl (by assumption)).1, (Pool.old_no hkl (by assumption)).2, Pool.wc_append, Pool.wc_one, List.length_append]; rfl))
    · skip
      try simp only [decide_eq_true_eq, decide_eq_false_iff_not, Bool.not_eq_true', Bool.not_eq_false', Bool.and_eq_true, Bool.not_eq_true, Bool.not_eq_false] at hc24
      have isNo := True.intro
      refine reg ?_
      refine plain (y_move rfl rfl) rfl rfl rfl H23 ?_
      clear H23; intro a32 H32
      refine plain (y_loadAB rfl z_agg38 z_size38 rfl (by repeat (first | exact Mh | apply Mt)) (q_ld_c8b32b32c4_0_76 (by assumption) (by assumption)) (q_len_c8b32b32c4 (by assumption) (by assumption))) rfl rfl rfl H32 ?_
      clear H32; intro a33 H33
      refine st_buildSlice rfl Try.underlying30 z_size38 z_zero38 rfl rfl rfl (lay_agg (agg_cells _) hwk.len rfl) rfl rfl rfl H33 ?_
      clear H33; intro b34 a34 wx34 H34
      refine st_append rfl z_slice30 z_notint30 rfl rfl (fun _ => (by repeat (first | exact Uh | apply Ut))) (fun w hs => Src.slice ((rd_blkA (by repeat (first | exact Mh | apply Mt))) w hs) hwk.len (Pool.wait_cell _)) (by unfold maxLen at *; first | omega | (simp only [List.length_cons, List.length_nil, List.length_append, List.length_map]; omega)) (by omega) rfl rfl rfl H34 ?_
      clear H34; intro v35 a35 wx35 hnil35 H35
      obtain ⟨ArN, crN, hvrN, hRrN, hmrN⟩ := row_shape (v := v35) H35.sep (by repeat (first | exact Mh | apply Mt))
      subst hvrN
      refine plain (y_assign rfl rfl) rfl rfl rfl H35 ?_
      clear H35; intro a36 H36
      refine fin ?_
      refine inb_n ?_
      refine then_n ?_
      refine reg ?_
      refine plain (y_add rfl rfl rfl (by first | exact w64 (by omega) (by omega) | rfl)) rfl rfl rfl H36 ?_
      clear H36; intro a37 H37
      refine plain (y_move rfl rfl) rfl rfl rfl H37 ?_
      clear H37; intro a38 H38
      refine fin ?_
      refine then_n ?_
      first | (have hz := isYes; refine ⟨(k + 1, (.slice ArY (((L.take k).filter (Pool.isOld now)).length + 1) crY, .slice A2 ((L.take k).filter fun w => !Pool.isOld now w).length c2)), by dsimp only; omega, by dsimp only; omega, (H38.drop (List.Sublist.cons _ (List.Sublist.cons _ (List.Sublist.refl _)))).weak ⟨rfl, rfl, rfl, rfl, rfl, rfl, fi rfl (by dsimp only; omega), trivial⟩ ?_⟩ <;> (rw [(Pool.old_yes hkl (by assumption)).1, (Pool.old_yes hkl (by assumption)).2, Pool.wc_append, Pool.wc_one, List.length_append]; rfl)) | (have hz := isNo; refine ⟨(k + 1, (.slice A1 ((L.take k).filter (Pool.isOld now)).length c1, .slice ArN (((L.take k).filter fun w => !Pool.isOld now w).length + 1) crN)), by dsimp only; omega, by dsimp only; omega, (H38.drop (List.Sublist.cons _ (List.Sublist.cons _ (List.Sublist.refl _)))).weak ⟨rfl, rfl, rfl, rfl, rfl, rfl, fi rfl (by dsimp only; omega), trivial⟩ ?_⟩ <;> (rw [(Pool.old_no hkl (by assumption)).1, (Pool.old_no hkl (by assumption)).2, Pool.wc_append, Pool.wc_one, List.length_append]; rfl))
  · skip
    try simp only [decide_eq_true_eq, decide_eq_false_iff_not, Bool.not_eq_true', Bool.not_eq_false', Bool.and_eq_true, Bool.not_eq_true, Bool.not_eq_false] at hc15
    refine wp_exit ?_
    refine then_x ?_
    refine then_x ?_
    refine inb_hit ?_
    refine then_n ?_
    refine wp_seq ?_
    refine reg ?_
    refine plain (y_move rfl rfl) rfl rfl rfl H14 ?_
    clear H14; intro a39 H39
    refine plain (y_move rfl rfl) rfl rfl rfl H39 ?_
    clear H39; intro a40 H40
    refine plain (y_nilCheck rfl rfl) rfl rfl rfl H40 ?_
    clear H40; intro a41 H41
    refine plain (y_fieldB rfl z_field63_1 rfl (by first | (simp only [Nat.zero_add, Nat.add_zero, Nat.reduceAdd]; rfl) | rfl)) rfl rfl rfl H41 ?_
    clear H41; intro a42 H42
    refine st_store1N rfl z_size30 rfl rfl rfl (by repeat (first | exact Uh | apply Ut)) q_len_c2 q_set_c2_1 (by decide) rfl rfl H42 ?_
    clear H42; intro wx43 H43
    refine fin ?_
    refine then_n ?_
    refine wp_seq ?_
    refine reg ?_
    refine plain (y_move rfl rfl) rfl rfl rfl H43 ?_
    clear H43; intro a44 H44
    refine plain (y_assign rfl rfl) rfl rfl rfl H44 ?_
    clear H44; intro a45 H45
    refine fin ?_
    refine then_n ?_
    refine wp_ret ?_
    -- return 1
    refine ret1 rfl H45 rfl ?_
    have hsx := H45.sep.sub (List.Sublist.cons_cons _ (List.Sublist.cons_cons _ (List.Sublist.cons _ (List.Sublist.refl _))))
    have htk : L.take k = L := List.take_of_length_le (by omega)
    rw [htk] at hsx ⊢
    exact ⟨_, _, rfl, ⟨_, rfl⟩, hsx⟩
end Go.Proofs.Ytbdkgmkaakoigaa.P_Old

set_option linter.unusedVariables false
set_option linter.unusedSimpArgs false
namespace Go.Proofs.Ytbdkgmkaakoigaa.P_Pl
open Go.Sx Go.RowKit Go.Proofs.Ytbdkgmkaakoigaa.P_EqT Go.Proofs.Ytbdkgmkaakoigaa.P_R1 Go.Proofs.Ytbdkgmkaakoigaa.P_New Go.Proofs.Ytbdkgmkaakoigaa.P_Put Go.Proofs.Ytbdkgmkaakoigaa.P_Nx Go.Proofs.Ytbdkgmkaakoigaa.P_Old Go.Proofs.Ytbdkgmkaakoigaa.P_All

theorem z_call8 : callB Try.prog 8 = true := by kernel_rfl
theorem z_slice23 : sliceB Try.prog 23 = some (3, 1, 8) := by kernel_rfl
theorem z_zval3 : (Try.prog.info? 3).bind (·.zero) = some (.int .i64 0) := by kernel_rfl
theorem z_zeroN23 : zeroL Try.prog 23 = some ((.slice none 0 0 :: [])) := by kernel_rfl
theorem z_size23 : sizeB Try.prog 23 = some 1 := by kernel_rfl
theorem q_len_c1 {a0 : Value} : (a0 :: []).length = 1 := (len_c (n := 0) len_n)
theorem q_set_c1_0 {a0 : Value} {v : Value} : (a0 :: []).set 0 v = v :: [] := set_0
theorem z_size59 : sizeB Try.prog 59 = some 75 := by kernel_rfl
theorem z_field59_0 : fieldB Try.prog 59 0 = some 0 := by kernel_rfl
theorem z_agg4 : aggB Try.prog 4 = some false := by kernel_rfl
theorem z_field59_1 : fieldB Try.prog 59 1 = some 1 := by kernel_rfl
theorem z_agg36 : aggB Try.prog 36 = some true := by kernel_rfl
theorem z_size36 : sizeB Try.prog 36 = some 72 := by kernel_rfl
theorem z_field59_2 : fieldB Try.prog 59 2 = some 73 := by kernel_rfl
theorem z_agg5 : aggB Try.prog 5 = some false := by kernel_rfl
theorem z_field59_3 : fieldB Try.prog 59 3 = some 74 := by kernel_rfl
theorem z_zeroN38 : zeroL Try.prog 38 = some ((.int .i64 0 :: (.int .i64 0 :: (.int .i64 0 :: (.int .i64 0 :: (.string ⟨#[]⟩ :: (.bool false :: (.int .i64 0 :: (.int .i64 0 :: ((List.replicate 32 (0 : UInt8)).map u8 ++ ((List.replicate 32 (0 : UInt8)).map u8 ++ (.int .i64 0 :: (.int .i64 0 :: (.int .i64 0 :: (.int .i64 0 :: []))))))))))))))) := by kernel_rfl
theorem z_places38 : placesB Try.prog 38 = some [(0, 72), (72, 1), (73, 1), (74, 1), (75, 1)] := by kernel_rfl
theorem q_len_c8b32b32 {a0 a1 a2 a3 a4 a5 a6 a7 : Value} {t8 t9 : List UInt8} (h8 : t8.length = 32) (h9 : t9.length = 32) : (a0 :: a1 :: a2 :: a3 :: a4 :: a5 :: a6 :: a7 :: (t8.map u8 ++ (t9.map u8))).length = 72 := (len_c (n := 71) (len_c (n := 70) (len_c (n := 69) (len_c (n := 68) (len_c (n := 67) (len_c (n := 66) (len_c (n := 65) (len_c (n := 64) (len_b (k := 32) (n := 32) h8 (len_e (k := 32) h9))))))))))
theorem q_len_c8b32b32c4 {a0 a1 a2 a3 a4 a5 a6 a7 a10 a11 a12 a13 : Value} {t8 t9 : List UInt8} (h8 : t8.length = 32) (h9 : t9.length = 32) : (a0 :: a1 :: a2 :: a3 :: a4 :: a5 :: a6 :: a7 :: (t8.map u8 ++ ((t9.map u8 ++ (a10 :: a11 :: a12 :: a13 :: []))))).length = 76 := (len_c (n := 75) (len_c (n := 74) (len_c (n := 73) (len_c (n := 72) (len_c (n := 71) (len_c (n := 70) (len_c (n := 69) (len_c (n := 68) (len_b (k := 32) (n := 36) h8 (len_b (k := 32) (n := 4) h9 (len_c (n := 3) (len_c (n := 2) (len_c (n := 1) (len_c (n := 0) len_n))))))))))))))
theorem q_spl_c8b32b32c4_0_c8b32b32 {a0 a1 a2 a3 a4 a5 a6 a7 a10 a11 a12 a13 : Value} {t8 t9 : List UInt8} {b0 b1 b2 b3 b4 b5 b6 b7 : Value} {s8 s9 : List UInt8} (h8 : t8.length = 32) (h9 : t9.length = 32) (g8 : s8.length = 32) (g9 : s9.length = 32) : spl (a0 :: a1 :: a2 :: a3 :: a4 :: a5 :: a6 :: a7 :: (t8.map u8 ++ ((t9.map u8 ++ (a10 :: a11 :: a12 :: a13 :: []))))) 0 (b0 :: b1 :: b2 :: b3 :: b4 :: b5 :: b6 :: b7 :: (s8.map u8 ++ (s9.map u8))) = b0 :: b1 :: b2 :: b3 :: b4 :: b5 :: b6 :: b7 :: (s8.map u8 ++ ((s9.map u8 ++ (a10 :: a11 :: a12 :: a13 :: [])))) := (spl_m (z := 72) (len_c (n := 71) (len_c (n := 70) (len_c (n := 69) (len_c (n := 68) (len_c (n := 67) (len_c (n := 66) (len_c (n := 65) (len_c (n := 64) (len_b (k := 32) (n := 32) g8 (len_e (k := 32) g9)))))))))) (dr_c (o := 71) (dr_c (o := 70) (dr_c (o := 69) (dr_c (o := 68) (dr_c (o := 67) (dr_c (o := 66) (dr_c (o := 65) (dr_c (o := 64) (dr_b (k := 32) (o := 32) h8 rfl (dr_b (k := 32) (o := 0) h9 rfl dr_0)))))))))) (app_c (app_c (app_c (app_c (app_c (app_c (app_c (app_c (app_b app_e))))))))))
theorem q_spl_c8b32b32c4_72_c1 {a0 a1 a2 a3 a4 a5 a6 a7 a10 a11 a12 a13 : Value} {t8 t9 : List UInt8} {b0 : Value} (h8 : t8.length = 32) (h9 : t9.length = 32) : spl (a0 :: a1 :: a2 :: a3 :: a4 :: a5 :: a6 :: a7 :: (t8.map u8 ++ ((t9.map u8 ++ (a10 :: a11 :: a12 :: a13 :: []))))) 72 (b0 :: []) = a0 :: a1 :: a2 :: a3 :: a4 :: a5 :: a6 :: a7 :: (t8.map u8 ++ ((t9.map u8 ++ (b0 :: a11 :: a12 :: a13 :: [])))) := (spl_c (o := 71) (spl_c (o := 70) (spl_c (o := 69) (spl_c (o := 68) (spl_c (o := 67) (spl_c (o := 66) (spl_c (o := 65) (spl_c (o := 64) (spl_b (k := 32) (o := 32) h8 rfl (spl_b (k := 32) (o := 0) h9 rfl spl_0))))))))))
theorem q_spl_c8b32b32c4_75_c1 {a0 a1 a2 a3 a4 a5 a6 a7 a10 a11 a12 a13 : Value} {t8 t9 : List UInt8} {b0 : Value} (h8 : t8.length = 32) (h9 : t9.length = 32) : spl (a0 :: a1 :: a2 :: a3 :: a4 :: a5 :: a6 :: a7 :: (t8.map u8 ++ ((t9.map u8 ++ (a10 :: a11 :: a12 :: a13 :: []))))) 75 (b0 :: []) = a0 :: a1 :: a2 :: a3 :: a4 :: a5 :: a6 :: a7 :: (t8.map u8 ++ ((t9.map u8 ++ (a10 :: a11 :: a12 :: b0 :: [])))) := (spl_c (o := 74) (spl_c (o := 73) (spl_c (o := 72) (spl_c (o := 71) (spl_c (o := 70) (spl_c (o := 69) (spl_c (o := 68) (spl_c (o := 67) (spl_b (k := 32) (o := 35) h8 rfl (spl_b (k := 32) (o := 3) h9 rfl (spl_c (o := 2) (spl_c (o := 1) (spl_c (o := 0) spl_0)))))))))))))
theorem q_spl_c8b32b32c4_74_c1 {a0 a1 a2 a3 a4 a5 a6 a7 a10 a11 a12 a13 : Value} {t8 t9 : List UInt8} {b0 : Value} (h8 : t8.length = 32) (h9 : t9.length = 32) : spl (a0 :: a1 :: a2 :: a3 :: a4 :: a5 :: a6 :: a7 :: (t8.map u8 ++ ((t9.map u8 ++ (a10 :: a11 :: a12 :: a13 :: []))))) 74 (b0 :: []) = a0 :: a1 :: a2 :: a3 :: a4 :: a5 :: a6 :: a7 :: (t8.map u8 ++ ((t9.map u8 ++ (a10 :: a11 :: b0 :: a13 :: [])))) := (spl_c (o := 73) (spl_c (o := 72) (spl_c (o := 71) (spl_c (o := 70) (spl_c (o := 69) (spl_c (o := 68) (spl_c (o := 67) (spl_c (o := 66) (spl_b (k := 32) (o := 34) h8 rfl (spl_b (k := 32) (o := 2) h9 rfl (spl_c (o := 1) (spl_c (o := 0) spl_0))))))))))))
theorem q_spl_c8b32b32c4_73_c1 {a0 a1 a2 a3 a4 a5 a6 a7 a10 a11 a12 a13 : Value} {t8 t9 : List UInt8} {b0 : Value} (h8 : t8.length = 32) (h9 : t9.length = 32) : spl (a0 :: a1 :: a2 :: a3 :: a4 :: a5 :: a6 :: a7 :: (t8.map u8 ++ ((t9.map u8 ++ (a10 :: a11 :: a12 :: a13 :: []))))) 73 (b0 :: []) = a0 :: a1 :: a2 :: a3 :: a4 :: a5 :: a6 :: a7 :: (t8.map u8 ++ ((t9.map u8 ++ (a10 :: b0 :: a12 :: a13 :: [])))) := (spl_c (o := 72) (spl_c (o := 71) (spl_c (o := 70) (spl_c (o := 69) (spl_c (o := 68) (spl_c (o := 67) (spl_c (o := 66) (spl_c (o := 65) (spl_b (k := 32) (o := 33) h8 rfl (spl_b (k := 32) (o := 1) h9 rfl (spl_c (o := 0) spl_0)))))))))))
theorem z_call10 : callB Try.prog 10 = true := by kernel_rfl
theorem z_size38 : sizeB Try.prog 38 = some 76 := by kernel_rfl
theorem q_one_c8b32b32c4 {a0 a1 a2 a3 a4 a5 a6 a7 a10 a11 a12 a13 : Value} {t8 t9 : List UInt8} (o0 : a0.oneCell' = true) (o1 : a1.oneCell' = true) (o2 : a2.oneCell' = true) (o3 : a3.oneCell' = true) (o4 : a4.oneCell' = true) (o5 : a5.oneCell' = true) (o6 : a6.oneCell' = true) (o7 : a7.oneCell' = true) (o10 : a10.oneCell' = true) (o11 : a11.oneCell' = true) (o12 : a12.oneCell' = true) (o13 : a13.oneCell' = true) : (a0 :: a1 :: a2 :: a3 :: a4 :: a5 :: a6 :: a7 :: (t8.map u8 ++ ((t9.map u8 ++ (a10 :: a11 :: a12 :: a13 :: []))))).all (·.oneCell') = true := (one_c o0 (one_c o1 (one_c o2 (one_c o3 (one_c o4 (one_c o5 (one_c o6 (one_c o7 (one_b (one_b (one_c o10 (one_c o11 (one_c o12 (one_c o13 one_n))))))))))))))
theorem q_spl_c8b32b32c4_0_c8b32b32c4 {a0 a1 a2 a3 a4 a5 a6 a7 a10 a11 a12 a13 : Value} {t8 t9 : List UInt8} {b0 b1 b2 b3 b4 b5 b6 b7 b10 b11 b12 b13 : Value} {s8 s9 : List UInt8} (h8 : t8.length = 32) (h9 : t9.length = 32) (g8 : s8.length = 32) (g9 : s9.length = 32) : spl (a0 :: a1 :: a2 :: a3 :: a4 :: a5 :: a6 :: a7 :: (t8.map u8 ++ ((t9.map u8 ++ (a10 :: a11 :: a12 :: a13 :: []))))) 0 (b0 :: b1 :: b2 :: b3 :: b4 :: b5 :: b6 :: b7 :: (s8.map u8 ++ ((s9.map u8 ++ (b10 :: b11 :: b12 :: b13 :: []))))) = b0 :: b1 :: b2 :: b3 :: b4 :: b5 :: b6 :: b7 :: (s8.map u8 ++ ((s9.map u8 ++ (b10 :: b11 :: b12 :: b13 :: [])))) := (spl_a (z := 76) (len_c (n := 75) (len_c (n := 74) (len_c (n := 73) (len_c (n := 72) (len_c (n := 71) (len_c (n := 70) (len_c (n := 69) (len_c (n := 68) (len_b (k := 32) (n := 36) h8 (len_b (k := 32) (n := 4) h9 (len_c (n := 3) (len_c (n := 2) (len_c (n := 1) (len_c (n := 0) len_n)))))))))))))) (len_c (n := 75) (len_c (n := 74) (len_c (n := 73) (len_c (n := 72) (len_c (n := 71) (len_c (n := 70) (len_c (n := 69) (len_c (n := 68) (len_b (k := 32) (n := 36) g8 (len_b (k := 32) (n := 4) g9 (len_c (n := 3) (len_c (n := 2) (len_c (n := 1) (len_c (n := 0) len_n)))))))))))))))
theorem z_agg38 : aggB Try.prog 38 = some true := by kernel_rfl
theorem q_ld_c8b32b32c4_0_76 {a0 a1 a2 a3 a4 a5 a6 a7 a10 a11 a12 a13 : Value} {t8 t9 : List UInt8} (h8 : t8.length = 32) (h9 : t9.length = 32) : ((a0 :: a1 :: a2 :: a3 :: a4 :: a5 :: a6 :: a7 :: (t8.map u8 ++ ((t9.map u8 ++ (a10 :: a11 :: a12 :: a13 :: []))))).drop 0).take 76 = a0 :: a1 :: a2 :: a3 :: a4 :: a5 :: a6 :: a7 :: (t8.map u8 ++ ((t9.map u8 ++ (a10 :: a11 :: a12 :: a13 :: [])))) := (ld_a (len_c (n := 75) (len_c (n := 74) (len_c (n := 73) (len_c (n := 72) (len_c (n := 71) (len_c (n := 70) (len_c (n := 69) (len_c (n := 68) (len_b (k := 32) (n := 36) h8 (len_b (k := 32) (n := 4) h9 (len_c (n := 3) (len_c (n := 2) (len_c (n := 1) (len_c (n := 0) len_n)))))))))))))))
theorem z_zero38 : zeroL Try.prog 38 = some ([.int .i64 0, .int .i64 0, .int .i64 0, .int .i64 0, .string ⟨#[]⟩, .bool false, .int .i64 0, .int .i64 0, .int .u8 0, .int .u8 0, .int .u8 0, .int .u8 0, .int .u8 0, .int .u8 0, .int .u8 0, .int .u8 0, .int .u8 0, .int .u8 0, .int .u8 0, .int .u8 0, .int .u8 0, .int .u8 0, .int .u8 0, .int .u8 0, .int .u8 0, .int .u8 0, .int .u8 0, .int .u8 0, .int .u8 0, .int .u8 0, .int .u8 0, .int .u8 0, .int .u8 0, .int .u8 0, .int .u8 0, .int .u8 0, .int .u8 0, .int .u8 0, .int .u8 0, .int .u8 0, .int .u8 0, .int .u8 0, .int .u8 0, .int .u8 0, .int .u8 0, .int .u8 0, .int .u8 0, .int .u8 0, .int .u8 0, .int .u8 0, .int .u8 0, .int .u8 0, .int .u8 0, .int .u8 0, .int .u8 0, .int .u8 0, .int .u8 0, .int .u8 0, .int .u8 0, .int .u8 0, .int .u8 0, .int .u8 0, .int .u8 0, .int .u8 0, .int .u8 0, .int .u8 0, .int .u8 0, .int .u8 0, .int .u8 0, .int .u8 0, .int .u8 0, .int .u8 0, .int .i64 0, .int .i64 0, .int .i64 0, .int .i64 0]) := by kernel_rfl
theorem z_slice30 : sliceB Try.prog 30 = some (38, 76, 168) := by kernel_rfl
theorem z_notint30 : notIntB Try.prog 30 = true := by kernel_rfl
theorem z_call15 : callB Try.prog 15 = true := by kernel_rfl
theorem z_agg23 : aggB Try.prog 23 = some false := by kernel_rfl
theorem q_ix_c1_0 {a0 : Value} : (a0 :: [])[0]? = some a0 := ix_0
theorem z_field38_0 : fieldB Try.prog 38 0 = some 0 := by kernel_rfl
theorem z_field36_0 : fieldB Try.prog 36 0 = some 0 := by kernel_rfl
theorem z_agg3 : aggB Try.prog 3 = some false := by kernel_rfl
theorem q_ix_c8b32b32c4_0 {a0 a1 a2 a3 a4 a5 a6 a7 a10 a11 a12 a13 : Value} {t8 t9 : List UInt8} : (a0 :: a1 :: a2 :: a3 :: a4 :: a5 :: a6 :: a7 :: (t8.map u8 ++ ((t9.map u8 ++ (a10 :: a11 :: a12 :: a13 :: [])))))[0]? = some a0 := ix_0
theorem z_size3 : sizeB Try.prog 3 = some 1 := by kernel_rfl
theorem z_call13 : callB Try.prog 13 = true := by kernel_rfl

set_option maxRecDepth 100000 in
set_option maxHeartbeats 8000000 in
theorem pplay (size : Int) (h1 : 1 ≤ size ∧ size ≤ 256) (l : List Pool.Come) (A : Option Addr) (ca : Nat) (hl0 : l.length ≤ 9223372036854775807) (wl : ∀ z ∈ l, Pool.Come.Wf z) {w : World} (hA : Rd w A (Pool.cmc l)) : Calls Try.prog 20 #[.int .i64 size, .slice A l.length ca] w (Post [] w fun u l' => ∃ (vo vg v : Value) (bp : Nat), u = .tuple #[vo, vg, .pointer (some ⟨bp, 0, none⟩), .int .i64 (Pool.play size l (min l.length 120)).put] ∧ l' = [It.row 38 76 vo (Pool.play size l (min l.length 120)).out.length (Pool.wc (Pool.play size l (min l.length 120)).out), It.row 38 76 vg (Pool.play size l (min l.length 120)).gone.length (Pool.wc (Pool.play size l (min l.length 120)).gone), It.row 38 76 v (Pool.play size l (min l.length 120)).p.L.length (Pool.wc (Pool.play size l (min l.length 120)).p.L), It.blk bp 63 [i64 size, v]]) := by
  have lz32 : (List.replicate 32 (0 : UInt8)).length = 32 := List.length_replicate
  refine enterL (args := [.int .i64 size, .slice A l.length ca]) Try.func20 rfl rfl (l := []) (Sep.refl _) ?_
  intro a0 H0
  refine wp_seq ?_
  refine reg ?_
  refine plain (y_assign rfl rfl) rfl rfl rfl H0 ?_
  clear H0; intro a1 H1
  refine plain (y_assign rfl rfl) rfl rfl rfl H1 ?_
  clear H1; intro a2 H2
  refine plain (y_assign rfl rfl) rfl rfl rfl H2 ?_
  clear H2; intro a3 H3
  refine plain (y_assign rfl rfl) rfl rfl rfl H3 ?_
  clear H3; intro a4 H4
  refine fin ?_
  refine then_n ?_
  refine wp_seq ?_
  refine reg ?_
  refine plain (y_move rfl rfl) rfl rfl rfl H4 ?_
  clear H4; intro a5 H5
  refine st_call rfl z_call8 rfl rfl rfl rfl H5 (pnew size h1 _) ?_
  clear H5; intro v6 l6 a6 wx6 hf6 H6
  obtain ⟨bp, rfl, rfl⟩ := hf6
  simp only [List.cons_append, List.nil_append] at H6
  refine plain (y_move rfl rfl) rfl rfl rfl H6 ?_
  clear H6; intro a7 H7
  refine plain (y_extract rfl rfl rfl) rfl rfl rfl H7 ?_
  clear H7; intro a8 H8
  refine plain (y_extract rfl rfl rfl) rfl rfl rfl H8 ?_
  clear H8; intro a9 H9
  refine plain (y_assign rfl rfl) rfl rfl rfl H9 ?_
  clear H9; intro a10 H10
  refine plain (y_assign rfl rfl) rfl rfl rfl H10 ?_
  clear H10; intro a11 H11
  refine fin ?_
  refine then_n ?_
  refine wp_seq ?_
  refine wp_seq ?_
  refine reg ?_
  refine plain (y_move rfl rfl) rfl rfl rfl H11 ?_
  clear H11; intro a12 H12
  refine plain (y_neq rfl rfl rfl) rfl rfl rfl H12 ?_
  clear H12; intro a13 H13
  refine plain (y_move rfl rfl) rfl rfl rfl H13 ?_
  clear H13; intro a14 H14
  have H16 := H14.know (d := 29) (v := .bool false) rfl (congrArg Value.bool (by first | exact decide_eq_false (by omega) | rfl | (simp; done) | (simp; omega)))
  clear H14
  refine plain (y_move rfl rfl) rfl rfl rfl H16 ?_
  clear H16; intro a17 H17
  refine plain (y_peql rfl Try.underlying24 rfl rfl) rfl rfl rfl H17 ?_
  clear H17; intro a18 H18
  refine plain (y_pick_f rfl rfl rfl) rfl rfl rfl H18 ?_
  clear H18; intro a19 H19
  refine fin ?_
  refine then_n ?_
  refine cnd_f H19 rfl ?_
  refine wp_skip ?_
  refine then_n ?_
  refine wp_seq ?_
  refine reg ?_
  refine plain (y_assign rfl rfl) rfl rfl rfl H19 ?_
  clear H19; intro a21 H21
  refine plain (y_assign rfl rfl) rfl rfl rfl H21 ?_
  clear H21; intro a22 H22
  refine fin ?_
  refine then_n ?_
  refine wp_seq ?_
  refine reg ?_
  refine st_make rfl z_slice23 rfl rfl (by decide) (by decide) z_zval3 rfl rfl rfl H22 ?_
  clear H22; intro b23 a23 wx23 H23
  refine st_alloc rfl z_zeroN23 rfl rfl rfl H23 ?_
  clear H23; intro b24 a24 wx24 H24
  refine st_store1N rfl z_size23 rfl rfl rfl (by repeat (first | exact Uh | apply Ut)) q_len_c1 q_set_c1_0 (by decide) rfl rfl H24 ?_
  clear H24; intro wx25 H25
  refine fin ?_
  refine then_n ?_
  refine wp_seq ?_
  refine reg ?_
  refine plain (y_assign rfl rfl) rfl rfl rfl H25 ?_
  clear H25; intro a26 H26
  refine plain (y_assign rfl rfl) rfl rfl rfl H26 ?_
  clear H26; intro a27 H27
  refine fin ?_
  refine then_n ?_
  refine wp_seq ?_
  refine wp_seq ?_
  refine reg ?_
  refine plain (y_assign rfl rfl) rfl rfl rfl H27 ?_
  clear H27; intro a28 H28
  refine fin ?_
  refine then_n ?_
  refine wp_cut (fun aC wC => ∃ vo vg v : Value, St Try.f20.ntmps [] w ([(8, .pointer (some ⟨bp, 0, none⟩)), (10, vo), (11, vg), (14, .int .i64 (Pool.play size l (min l.length 120)).put)]) ([It.row 38 76 vo (Pool.play size l (min l.length 120)).out.length (Pool.wc (Pool.play size l (min l.length 120)).out), It.row 38 76 vg (Pool.play size l (min l.length 120)).gone.length (Pool.wc (Pool.play size l (min l.length 120)).gone), It.row 38 76 v (Pool.play size l (min l.length 120)).p.L.length (Pool.wc (Pool.play size l (min l.length 120)).p.L), It.blk bp 63 [i64 size, v]]) aC wC) ?_ ?_
  · skip
    refine wp_block ?_
    replace H28 := (((rot (rot H28)).nilRow 38 76).nilRow 38 76)
    refine loop (ι := Nat × (Value × (Value × Value))) (fun y => [(1, .slice A l.length ca), (8, .pointer (some ⟨bp, 0, none⟩)), (12, .pointer (some ⟨b24, 0, none⟩)), (10, y.2.1), (11, y.2.2.1), (13, .int .i64 (Pool.play size l y.1).now), (14, .int .i64 (Pool.play size l y.1).put), (15, .int .i64 (y.1 : Int))]) (fun y => [It.row 38 76 y.2.1 (Pool.play size l y.1).out.length (Pool.wc (Pool.play size l y.1).out), It.row 38 76 y.2.2.1 (Pool.play size l y.1).gone.length (Pool.wc (Pool.play size l y.1).gone), It.row 38 76 y.2.2.2 (Pool.play size l y.1).p.L.length (Pool.wc (Pool.play size l y.1).p.L), It.blk bp 63 [i64 size, y.2.2.2], It.blk b24 23 [.slice (some ⟨b23, 0, none⟩) 64 64], It.blk b23 3 ((Pool.play size l y.1).nx.map i64)]) (fun y => y.1 ≤ l.length ∧ y.1 ≤ 120) (fun y => 120 - y.1) ((0, ((.slice none 0 0 : Value), ((.slice none 0 0 : Value), (.slice none 0 0 : Value))))) ⟨Nat.zero_le _, Nat.zero_le _⟩ (H28.weak ⟨rfl, rfl, rfl, rfl, rfl, rfl, rfl, rfl, trivial⟩ (by rw [made_i64]; rfl)) ?_
    clear H28; intro y a29 wx29 hok29 H29
    obtain ⟨k, vo, vg, v⟩ := y
    dsimp only at hok29 H29
    have hok := hok29
    have hY := Pool.y_play h1 wl k (by omega) (by omega)
    generalize hs : Pool.play size l k = s at hY H29
    have hnow := hY.now
    have hput := hY.put
    have hfew := hY.few
    have hlen : s.p.L.length ≤ 1000 := by omega
    obtain ⟨Ao, co, rfl, hRAo, hmAo⟩ := row_shape (v := vo) H29.sep (by repeat (first | exact Mh | apply Mt))
    obtain ⟨Ag, cg, rfl, hRAg, hmAg⟩ := row_shape (v := vg) H29.sep (by repeat (first | exact Mh | apply Mt))
    refine wp_seq ?_
    refine wp_seq ?_
    refine reg ?_
    refine plain (y_move rfl rfl) rfl rfl rfl H29 ?_
    clear H29; intro a30 H30
    refine plain (y_move rfl rfl) rfl rfl rfl H30 ?_
    clear H30; intro a31 H31
    refine plain (y_len rfl Try.underlying52 rfl) rfl rfl rfl H31 ?_
    clear H31; intro a32 H32
    refine plain (y_lss rfl rfl rfl) rfl rfl rfl H32 ?_
    clear H32; intro a33 H33
    refine plain (y_move rfl rfl) rfl rfl rfl H33 ?_
    clear H33; intro a34 H34
    refine Sx.part (d := 38) H34 rfl (fun hg35 => ?_) (fun hg35 => ?_)
    · first
      | fail
      | skip
        clear H34; intro H36
        try simp only [decide_eq_true_eq, decide_eq_false_iff_not, Bool.not_eq_true', Bool.not_eq_false', Bool.and_eq_true, Bool.not_eq_true, Bool.not_eq_false] at hg35
        refine plain (y_move rfl rfl) rfl rfl rfl H36 ?_
        clear H36; intro a37 H37
        refine plain (y_lss rfl rfl rfl) rfl rfl rfl H37 ?_
        clear H37; intro a38 H38
        refine plain (y_pick_t rfl rfl rfl) rfl rfl rfl H38 ?_
        clear H38; intro a39 H39
        refine fin ?_
        refine then_n ?_
        refine cnd H39 rfl (fun hc40 => ?_) (fun hc40 => ?_) -- cond 2
        · skip
          try simp only [decide_eq_true_eq, decide_eq_false_iff_not, Bool.not_eq_true', Bool.not_eq_false', Bool.and_eq_true, Bool.not_eq_true, Bool.not_eq_false] at hc40
          refine wp_skip ?_
          refine then_n ?_
          refine wp_seq ?_
          refine wp_block ?_
          refine wp_seq ?_
          refine wp_seq ?_
          have hkl : k < l.length := by omega
          have wc := Pool.comeD wl hkl
          have whd := wc.tx.hand
          have wtg := wc.tx.tag
          have wdl := wc.delay
          have wst := wc.stay
          refine reg ?_
          refine plain (y_move rfl rfl) rfl rfl rfl H39 ?_
          clear H39; intro a41 H41
          refine plain (y_move rfl rfl) rfl rfl rfl H41 ?_
          clear H41; intro a42 H42
          refine plain (y_ixR rfl Try.underlying52 z_size59 rfl rfl (by omega) (by omega) (rd_old hA (by simp)) (by rw [Pool.cmc_len wl]; omega)) rfl rfl rfl H42 ?_
          clear H42; intro a43 H43
          refine plain (y_fieldS rfl z_field59_0 rfl (rd_old hA (by simp)) (by rw [Pool.cmc_len wl]; omega)) rfl rfl rfl H43 ?_
          clear H43; intro a44 H44
          refine plain (y_loadR rfl z_agg4 rfl (rd_old hA (by simp)) (by simp only [Int.toNat_natCast, Nat.zero_add, Nat.add_zero]; exact (Pool.cmc_at (c := 0) wl hkl (by omega)).trans rfl)) rfl rfl rfl H44 ?_
          clear H44; intro a45 H45
          refine plain ((by first | exact y_not_d rfl rfl | exact y_not rfl rfl)) rfl rfl rfl H45 ?_
          clear H45; intro a46 H46
          refine fin ?_
          refine then_n ?_
          refine cnd H46 rfl (fun hc47 => ?_) (fun hc47 => ?_) -- cond 3
          · skip
            try simp only [decide_eq_true_eq, decide_eq_false_iff_not, Bool.not_eq_true', Bool.not_eq_false', Bool.and_eq_true, Bool.not_eq_true, Bool.not_eq_false] at hc47
            have hti : (l.getD k Pool.Come.zero).tick = false := hc47
            refine wp_seq ?_
            have ww := Pool.wait_wf wc (i := k) (now := s.now) (by omega) (by omega)
            have hpw := Pool.put_wf (p := ⟨size, s.p.L⟩) hY.wl ww
            have hxw := hpw.2
            have hq1 := hxw.tx.hand
            have hq2 := hxw.tx.tag
            have hLy := Pool.lay_is hY.p (l.getD k Pool.Come.zero) k
            have hPl := Pool.play_lay (size := size) (l := l) (i := k) hti
            rw [hs, hLy] at hPl
            refine hreg ([] : List It) (fun _ h => (h.sub (by first | exact S0 | exact S1 | repeat (first | exact S1 | exact S0 | apply S2 | apply S3)))) (by kernel_rfl) H46 ?_
            clear H46; intro wx48 H48
            refine htake 0 rfl (by kernel_rfl) (y_move rfl rfl) rfl rfl rfl (fun _ h => (h.sub (by first | exact S0 | exact S1 | repeat (first | exact S1 | exact S0 | apply S2 | apply S3)))) H48 ?_
            clear H48; intro a49 H49
            refine htake 1 rfl (by kernel_rfl) (y_move rfl rfl) rfl rfl rfl (fun _ h => (h.sub (by first | exact S0 | exact S1 | repeat (first | exact S1 | exact S0 | apply S2 | apply S3)))) H49 ?_
            clear H49; intro a50 H50
            refine htake 2 rfl (by kernel_rfl) (y_move rfl rfl) rfl rfl rfl (fun _ h => (h.sub (by first | exact S0 | exact S1 | repeat (first | exact S1 | exact S0 | apply S2 | apply S3)))) H50 ?_
            clear H50; intro a51 H51
            refine htake 3 rfl (by kernel_rfl) (y_ixR rfl Try.underlying52 z_size59 rfl rfl (by omega) (by omega) (rd_old hA (by simp)) (by rw [Pool.cmc_len wl]; omega)) rfl rfl rfl (fun _ h => (h.sub (by first | exact S0 | exact S1 | repeat (first | exact S1 | exact S0 | apply S2 | apply S3)))) H51 ?_
            clear H51; intro a52 H52
            refine htake 4 rfl (by kernel_rfl) (y_fieldS rfl z_field59_1 rfl (rd_old hA (by simp)) (by rw [Pool.cmc_len wl]; omega)) rfl rfl rfl (fun _ h => (h.sub (by first | exact S0 | exact S1 | repeat (first | exact S1 | exact S0 | apply S2 | apply S3)))) H52 ?_
            clear H52; intro a53 H53
            refine htake 5 rfl (by kernel_rfl) (y_loadAS rfl z_agg36 z_size36 rfl (rd_old hA (by simp)) (show _ = Txs.Tx.cells (l.getD k Pool.Come.zero).tx from Pool.come_tx wl hkl) (Txs.Tx.cells_len whd wtg) (by decide)) rfl rfl rfl (fun _ h => (h.sub (by first | exact S0 | exact S1 | repeat (first | exact S1 | exact S0 | apply S2 | apply S3)))) H53 ?_
            clear H53; intro a54 H54
            refine htake 6 rfl (by kernel_rfl) (y_move rfl rfl) rfl rfl rfl (fun _ h => (h.sub (by first | exact S0 | exact S1 | repeat (first | exact S1 | exact S0 | apply S2 | apply S3)))) H54 ?_
            clear H54; intro a55 H55
            refine htake 7 rfl (by kernel_rfl) (y_move rfl rfl) rfl rfl rfl (fun _ h => (h.sub (by first | exact S0 | exact S1 | repeat (first | exact S1 | exact S0 | apply S2 | apply S3)))) H55 ?_
            clear H55; intro a56 H56
            refine htake 8 rfl (by kernel_rfl) (y_move rfl rfl) rfl rfl rfl (fun _ h => (h.sub (by first | exact S0 | exact S1 | repeat (first | exact S1 | exact S0 | apply S2 | apply S3)))) H56 ?_
            clear H56; intro a57 H57
            refine htake 9 rfl (by kernel_rfl) (y_move rfl rfl) rfl rfl rfl (fun _ h => (h.sub (by first | exact S0 | exact S1 | repeat (first | exact S1 | exact S0 | apply S2 | apply S3)))) H57 ?_
            clear H57; intro a58 H58
            refine htake 10 rfl (by kernel_rfl) (y_move rfl rfl) rfl rfl rfl (fun _ h => (h.sub (by first | exact S0 | exact S1 | repeat (first | exact S1 | exact S0 | apply S2 | apply S3)))) H58 ?_
            clear H58; intro a59 H59
            refine htake 11 rfl (by kernel_rfl) (y_ixR rfl Try.underlying52 z_size59 rfl rfl (by omega) (by omega) (rd_old hA (by simp)) (by rw [Pool.cmc_len wl]; omega)) rfl rfl rfl (fun _ h => (h.sub (by first | exact S0 | exact S1 | repeat (first | exact S1 | exact S0 | apply S2 | apply S3)))) H59 ?_
            clear H59; intro a60 H60
            refine htake 12 rfl (by kernel_rfl) (y_fieldS rfl z_field59_2 rfl (rd_old hA (by simp)) (by rw [Pool.cmc_len wl]; omega)) rfl rfl rfl (fun _ h => (h.sub (by first | exact S0 | exact S1 | repeat (first | exact S1 | exact S0 | apply S2 | apply S3)))) H60 ?_
            clear H60; intro a61 H61
            refine htake 13 rfl (by kernel_rfl) (y_loadR rfl z_agg5 rfl (rd_old hA (by simp)) (by simp only [Int.toNat_natCast, Nat.zero_add, Nat.add_zero]; exact (Pool.cmc_at (c := 73) wl hkl (by omega)).trans (Pool.come_end wc).1)) rfl rfl rfl (fun _ h => (h.sub (by first | exact S0 | exact S1 | repeat (first | exact S1 | exact S0 | apply S2 | apply S3)))) H61 ?_
            clear H61; intro a62 H62
            refine htake 14 rfl (by kernel_rfl) (y_conv rfl Try.underlying5 Try.underlying3 rfl (by first | exact w64 (by omega) (by omega) | rfl)) rfl rfl rfl (fun _ h => (h.sub (by first | exact S0 | exact S1 | repeat (first | exact S1 | exact S0 | apply S2 | apply S3)))) H62 ?_
            clear H62; intro a63 H63
            refine htake 15 rfl (by kernel_rfl) (y_add rfl rfl rfl (by first | exact w64 (by omega) (by omega) | rfl)) rfl rfl rfl (fun _ h => (h.sub (by first | exact S0 | exact S1 | repeat (first | exact S1 | exact S0 | apply S2 | apply S3)))) H63 ?_
            clear H63; intro a64 H64
            refine htake 16 rfl (by kernel_rfl) (y_move rfl rfl) rfl rfl rfl (fun _ h => (h.sub (by first | exact S0 | exact S1 | repeat (first | exact S1 | exact S0 | apply S2 | apply S3)))) H64 ?_
            clear H64; intro a65 H65
            refine htake 17 rfl (by kernel_rfl) (y_move rfl rfl) rfl rfl rfl (fun _ h => (h.sub (by first | exact S0 | exact S1 | repeat (first | exact S1 | exact S0 | apply S2 | apply S3)))) H65 ?_
            clear H65; intro a66 H66
            refine htake 18 rfl (by kernel_rfl) (y_move rfl rfl) rfl rfl rfl (fun _ h => (h.sub (by first | exact S0 | exact S1 | repeat (first | exact S1 | exact S0 | apply S2 | apply S3)))) H66 ?_
            clear H66; intro a67 H67
            refine htake 19 rfl (by kernel_rfl) (y_ixR rfl Try.underlying52 z_size59 rfl rfl (by omega) (by omega) (rd_old hA (by simp)) (by rw [Pool.cmc_len wl]; omega)) rfl rfl rfl (fun _ h => (h.sub (by first | exact S0 | exact S1 | repeat (first | exact S1 | exact S0 | apply S2 | apply S3)))) H67 ?_
            clear H67; intro a68 H68
            refine htake 20 rfl (by kernel_rfl) (y_fieldS rfl z_field59_3 rfl (rd_old hA (by simp)) (by rw [Pool.cmc_len wl]; omega)) rfl rfl rfl (fun _ h => (h.sub (by first | exact S0 | exact S1 | repeat (first | exact S1 | exact S0 | apply S2 | apply S3)))) H68 ?_
            clear H68; intro a69 H69
            refine htake 21 rfl (by kernel_rfl) (y_loadR rfl z_agg5 rfl (rd_old hA (by simp)) (by simp only [Int.toNat_natCast, Nat.zero_add, Nat.add_zero]; exact (Pool.cmc_at (c := 74) wl hkl (by omega)).trans (Pool.come_end wc).2)) rfl rfl rfl (fun _ h => (h.sub (by first | exact S0 | exact S1 | repeat (first | exact S1 | exact S0 | apply S2 | apply S3)))) H69 ?_
            clear H69; intro a70 H70
            refine htake 22 rfl (by kernel_rfl) (y_conv rfl Try.underlying5 Try.underlying3 rfl (by first | exact w64 (by omega) (by omega) | rfl)) rfl rfl rfl (fun _ h => (h.sub (by first | exact S0 | exact S1 | repeat (first | exact S1 | exact S0 | apply S2 | apply S3)))) H70 ?_
            clear H70; intro a71 H71
            refine htake 23 rfl (by kernel_rfl) (y_add rfl rfl rfl (by first | exact w64 (by omega) (by omega) | rfl)) rfl rfl rfl (fun _ h => (h.sub (by first | exact S0 | exact S1 | repeat (first | exact S1 | exact S0 | apply S2 | apply S3)))) H71 ?_
            clear H71; intro a72 H72
            refine htake 24 rfl (by kernel_rfl) (y_build rfl z_zeroN38 z_places38 rfl (lay_f (off := 0) (z := 72) (n := 76) rfl (agg_cells _) (q_len_c8b32b32 (by assumption) (by assumption)) (q_len_c8b32b32c4 (by assumption) (by assumption)) (by decide) (q_spl_c8b32b32c4_0_c8b32b32 (by assumption) (by assumption) (by assumption) (by assumption)) (lay_1 (off := 72) (n := 76) rfl (q_len_c8b32b32c4 (by assumption) (by assumption)) (by decide) (q_spl_c8b32b32c4_72_c1 (by assumption) (by assumption)) (lay_1 (off := 75) (n := 76) rfl (q_len_c8b32b32c4 (by assumption) (by assumption)) (by decide) (q_spl_c8b32b32c4_75_c1 (by assumption) (by assumption)) (lay_1 (off := 74) (n := 76) rfl (q_len_c8b32b32c4 (by assumption) (by assumption)) (by decide) (q_spl_c8b32b32c4_74_c1 (by assumption) (by assumption)) (lay_1 (off := 73) (n := 76) rfl (q_len_c8b32b32c4 (by assumption) (by assumption)) (by decide) (q_spl_c8b32b32c4_73_c1 (by assumption) (by assumption)) lay_n (by rfl)) (by rfl)) (by rfl)) (by rfl)))) rfl rfl rfl (fun _ h => (h.sub (by first | exact S0 | exact S1 | repeat (first | exact S1 | exact S0 | apply S2 | apply S3)))) H72 ?_
            clear H72; intro a73 H73
            refine hgo2 25 30 rfl rfl (by kernel_rfl) ?_ ?_
            · skip
              refine st_callk2 (is := [It.row 38 76 v s.p.L.length (Pool.wc s.p.L), It.blk bp 63 [i64 size, v]]) (enters_call rfl z_call10 rfl) rfl rfl rfl H73 (.cons (by repeat (first | exact Ph | apply Pt)) (.cons (by repeat (first | exact Ph | apply Pt)) (.nil _))) (fun hs => pput s.p.L hY.wl size bp v hlen hY.good (Pool.waitOf (l.getD k Pool.Come.zero) k s.now) ww hs) ?_
              clear H73; intro v74 l74 a74 wx74 hf74 H74
              obtain ⟨rfl, v1, rfl⟩ := hf74
              simp only [List.cons_append, List.nil_append] at H74
              refine hfinA H74.sep ?_
              refine htake 26 rfl (by kernel_rfl) (y_move rfl rfl) rfl rfl rfl (fun _ h => (h.sub (by first | exact S0 | exact S1 | repeat (first | exact S1 | exact S0 | apply S2 | apply S3)))) H74 ?_
              clear H74; intro a75 H75
              refine htake 27 rfl (by kernel_rfl) (y_extract rfl rfl rfl) rfl rfl rfl (fun _ h => (h.sub (by first | exact S0 | exact S1 | repeat (first | exact S1 | exact S0 | apply S2 | apply S3)))) H75 ?_
              clear H75; intro a76 H76
              refine htake 28 rfl (by kernel_rfl) (y_extract rfl rfl rfl) rfl rfl rfl (fun _ h => (h.sub (by first | exact S0 | exact S1 | repeat (first | exact S1 | exact S0 | apply S2 | apply S3)))) H76 ?_
              clear H76; intro a77 H77
              refine htake 29 rfl (by kernel_rfl) (y_extract rfl rfl rfl) rfl rfl rfl (fun _ h => (h.sub (by first | exact S0 | exact S1 | repeat (first | exact S1 | exact S0 | apply S2 | apply S3)))) H77 ?_
              clear H77; intro a78 H78
              refine hgo 30 rfl (by kernel_rfl) ?_
              refine st_alloc rfl z_zeroN38 rfl rfl rfl H78 ?_
              clear H78; intro b79 a79 wx79 H79
              refine hfinA H79.sep ?_
              refine hgo 31 rfl (by kernel_rfl) ?_
              refine st_storeN rfl z_size38 rfl rfl (agg_cells _) (by repeat (first | exact Uh | apply Ut)) (q_one_c8b32b32c4 rfl rfl rfl rfl rfl rfl rfl rfl rfl rfl rfl rfl) (q_len_c8b32b32c4 (by assumption) (by assumption)) (q_len_c8b32b32c4 (by assumption) (by assumption)) (q_spl_c8b32b32c4_0_c8b32b32c4 (by assumption) (by assumption) (by assumption) (by assumption)) (by decide) rfl rfl H79 ?_
              clear H79; intro wx80 H80
              refine hfinA H80.sep ?_
              refine htake 32 rfl (by kernel_rfl) (y_assign rfl rfl) rfl rfl rfl (fun _ h => (h.sub (by first | exact S0 | exact S1 | repeat (first | exact S1 | exact S0 | apply S2 | apply S3)))) H80 ?_
              clear H80; intro a81 H81
              refine htake 33 rfl (by kernel_rfl) (y_assign rfl rfl) rfl rfl rfl (fun _ h => (h.sub (by first | exact S0 | exact S1 | repeat (first | exact S1 | exact S0 | apply S2 | apply S3)))) H81 ?_
              clear H81; intro a82 H82
              refine hdone (by kernel_rfl) ?_
              refine then_n ?_
              refine wp_seq ?_
              refine wp_seq ?_
              refine reg ?_
              refine plain (y_move rfl rfl) rfl rfl rfl H82 ?_
              clear H82; intro a83 H83
              refine plain (y_eql rfl rfl rfl) rfl rfl rfl H83 ?_
              clear H83; intro a84 H84
              refine fin ?_
              refine then_n ?_
              refine cnd H84 rfl (fun hc85 => ?_) (fun hc85 => ?_) -- cond 4
              · skip
                try simp only [decide_eq_true_eq, decide_eq_false_iff_not, Bool.not_eq_true', Bool.not_eq_false', Bool.and_eq_true, Bool.not_eq_true, Bool.not_eq_false] at hc85
                have hok1 := hc85
                refine reg ?_
                refine plain (y_move rfl rfl) rfl rfl rfl H84 ?_
                clear H84; intro a86 H86
                refine plain (y_add rfl rfl rfl (by first | exact w64 (by omega) (by omega) | rfl)) rfl rfl rfl H86 ?_
                clear H86; intro a87 H87
                refine plain (y_assign rfl rfl) rfl rfl rfl H87 ?_
                clear H87; intro a88 H88
                refine fin ?_
                refine then_n ?_
                refine wp_seq ?_
                refine wp_seq ?_
                refine reg ?_
                refine plain (y_move rfl rfl) rfl rfl rfl H88 ?_
                clear H88; intro a89 H89
                refine fin ?_
                refine then_n ?_
                refine cnd H89 rfl (fun hc90 => ?_) (fun hc90 => ?_) -- cond 5
                · skip
                  try simp only [decide_eq_true_eq, decide_eq_false_iff_not, Bool.not_eq_true', Bool.not_eq_false', Bool.and_eq_true, Bool.not_eq_true, Bool.not_eq_false] at hc90
                  have his1 := hc90
                  refine reg ?_
                  refine plain (y_move rfl rfl) rfl rfl rfl H89 ?_
                  clear H89; intro a91 H91
                  refine plain (y_loadAB rfl z_agg38 z_size38 rfl (by repeat (first | exact Mh | apply Mt)) (q_ld_c8b32b32c4_0_76 (by assumption) (by assumption)) (q_len_c8b32b32c4 (by assumption) (by assumption))) rfl rfl rfl H91 ?_
                  clear H91; intro a92 H92
                  refine st_buildSlice rfl Try.underlying30 z_size38 z_zero38 rfl rfl rfl (lay_agg (agg_cells _) hxw.len rfl) rfl rfl rfl H92 ?_
                  clear H92; intro b93 a93 wx93 H93
                  refine st_append rfl z_slice30 z_notint30 rfl rfl (fun _ => (by repeat (first | exact Uh | apply Ut))) (fun w hs => Src.slice ((rd_blkA (by repeat (first | exact Mh | apply Mt))) w hs) hxw.len (Pool.wait_cell _)) (by unfold maxLen at *; omega) (by omega) rfl rfl rfl H93 ?_
                  clear H93; intro v94 a94 wx94 hnil94 H94
                  obtain ⟨ArP, crP, hvrP, hRrP, hmrP⟩ := row_shape (v := v94) H94.sep (by repeat (first | exact Mh | apply Mt))
                  subst hvrP
                  refine plain (y_assign rfl rfl) rfl rfl rfl H94 ?_
                  clear H94; intro a95 H95
                  refine fin ?_
                  refine then_n ?_
                  refine wp_exit ?_
                  refine then_x ?_
                  refine inb_hit ?_
                  refine then_n ?_
                  refine reg ?_
                  refine plain (y_move rfl rfl) rfl rfl rfl H95 ?_
                  clear H95; intro a96 H96
                  refine plain (y_add rfl rfl rfl (by first | exact w64 (by omega) (by omega) | rfl)) rfl rfl rfl H96 ?_
                  clear H96; intro a97 H97
                  refine plain (y_assign rfl rfl) rfl rfl rfl H97 ?_
                  clear H97; intro a98 H98
                  refine fin ?_
                  refine then_n ?_
                  first | (have hz := his1; refine ⟨(k + 1, (.slice Ao s.out.length co, (.slice ArP (s.gone.length + 1) crP, v1))), by dsimp only; omega, by dsimp only; omega, (H98.only (is := [It.row 38 76 (.slice Ao s.out.length co) s.out.length (Pool.wc s.out), It.row 38 76 (.slice ArP (s.gone.length + 1) crP) (s.gone.length + 1) (Pool.wc s.gone ++ Pool.Wait.cells (Pool.put ⟨size, s.p.L⟩ (Pool.waitOf (l.getD k Pool.Come.zero) k s.now)).2.1), It.row 38 76 v1 (Pool.put ⟨size, s.p.L⟩ (Pool.waitOf (l.getD k Pool.Come.zero) k s.now)).1.L.length (Pool.wc (Pool.put ⟨size, s.p.L⟩ (Pool.waitOf (l.getD k Pool.Come.zero) k s.now)).1.L), It.blk bp 63 [i64 size, v1], It.blk b24 23 [.slice (some ⟨b23, 0, none⟩) 64 64], It.blk b23 3 (s.nx.map i64)]) (.cons (by repeat (first | exact Ph | apply Pt)) (.cons (by repeat (first | exact Ph | apply Pt)) (.cons (by repeat (first | exact Ph | apply Pt)) (.cons (by repeat (first | exact Ph | apply Pt)) (.cons (by repeat (first | exact Ph | apply Pt)) (.cons (by repeat (first | exact Ph | apply Pt)) (.nil _)))))))).weak ⟨rfl, rfl, rfl, rfl, rfl, fi rfl (by dsimp only; rw [hPl]), fi rfl (by dsimp only; rw [hPl]; dsimp only; first | rw [if_pos (by assumption)] | rw [if_neg (by assumption)]), fi rfl (by dsimp only; omega), trivial⟩ (by dsimp only; rw [hPl]; dsimp only; rw [if_pos (by assumption), Pool.wc_append, Pool.wc_one, List.length_append]; rfl)⟩) | (have hz := his2; refine ⟨(k + 1, (.slice Ao s.out.length co, (.slice Ag s.gone.length cg, v1))), by dsimp only; omega, by dsimp only; omega, (H98.only (is := [It.row 38 76 (.slice Ao s.out.length co) s.out.length (Pool.wc s.out), It.row 38 76 (.slice Ag s.gone.length cg) s.gone.length (Pool.wc s.gone), It.row 38 76 v1 (Pool.put ⟨size, s.p.L⟩ (Pool.waitOf (l.getD k Pool.Come.zero) k s.now)).1.L.length (Pool.wc (Pool.put ⟨size, s.p.L⟩ (Pool.waitOf (l.getD k Pool.Come.zero) k s.now)).1.L), It.blk bp 63 [i64 size, v1], It.blk b24 23 [.slice (some ⟨b23, 0, none⟩) 64 64], It.blk b23 3 (s.nx.map i64)]) (.cons (by repeat (first | exact Ph | apply Pt)) (.cons (by repeat (first | exact Ph | apply Pt)) (.cons (by repeat (first | exact Ph | apply Pt)) (.cons (by repeat (first | exact Ph | apply Pt)) (.cons (by repeat (first | exact Ph | apply Pt)) (.cons (by repeat (first | exact Ph | apply Pt)) (.nil _)))))))).weak ⟨rfl, rfl, rfl, rfl, rfl, fi rfl (by dsimp only; rw [hPl]), fi rfl (by dsimp only; rw [hPl]; dsimp only; first | rw [if_pos (by assumption)] | rw [if_neg (by assumption)]), fi rfl (by dsimp only; omega), trivial⟩ (by dsimp only; rw [hPl]; dsimp only; rw [if_neg (by first | assumption | (rw [his2]; exact Bool.false_ne_true))])⟩) | (refine ⟨(k + 1, (.slice Ao1 d.out.length co1, (.slice ArR (s.gone.length + (d.p.L.filter (Pool.isOld (s.now + 1))).length) crR, v2))), by dsimp only; omega, by dsimp only; omega, (H98.only (is := [It.row 38 76 (.slice Ao1 d.out.length co1) d.out.length (Pool.wc d.out), It.row 38 76 (.slice ArR (s.gone.length + (d.p.L.filter (Pool.isOld (s.now + 1))).length) crR) (s.gone.length + (d.p.L.filter (Pool.isOld (s.now + 1))).length) (Pool.wc s.gone ++ Pool.wc (d.p.L.filter (Pool.isOld (s.now + 1)))), It.row 38 76 v2 (d.p.L.filter fun w => !Pool.isOld (s.now + 1) w).length (Pool.wc (d.p.L.filter fun w => !Pool.isOld (s.now + 1) w)), It.blk bp 63 [i64 size, v2], It.blk b24 23 [.slice (some ⟨b23, 0, none⟩) 64 64], It.blk b23 3 (d.nx.map i64)]) (.cons (by repeat (first | exact Ph | apply Pt)) (.cons (by repeat (first | exact Ph | apply Pt)) (.cons (by repeat (first | exact Ph | apply Pt)) (.cons (by repeat (first | exact Ph | apply Pt)) (.cons (by repeat (first | exact Ph | apply Pt)) (.cons (by repeat (first | exact Ph | apply Pt)) (.nil _)))))))).weak ⟨rfl, rfl, rfl, rfl, rfl, fi rfl (by dsimp only; rw [hTk]), fi rfl (by dsimp only; rw [hTk]), fi rfl (by dsimp only; omega), trivial⟩ (by dsimp only; rw [hTk]; dsimp only; rw [Pool.wc_append, List.length_append])⟩)
                · skip
                  try simp only [decide_eq_true_eq, decide_eq_false_iff_not, Bool.not_eq_true', Bool.not_eq_false', Bool.and_eq_true, Bool.not_eq_true, Bool.not_eq_false] at hc90
                  have his2 := hc90
                  refine wp_skip ?_
                  refine then_n ?_
                  refine wp_exit ?_
                  refine then_x ?_
                  refine inb_hit ?_
                  refine then_n ?_
                  refine reg ?_
                  refine plain (y_move rfl rfl) rfl rfl rfl H89 ?_
                  clear H89; intro a99 H99
                  refine plain (y_add rfl rfl rfl (by first | exact w64 (by omega) (by omega) | rfl)) rfl rfl rfl H99 ?_
                  clear H99; intro a100 H100
                  refine plain (y_assign rfl rfl) rfl rfl rfl H100 ?_
                  clear H100; intro a101 H101
                  refine fin ?_
                  refine then_n ?_
                  first | (have hz := his1; refine ⟨(k + 1, (.slice Ao s.out.length co, (.slice ArP (s.gone.length + 1) crP, v1))), by dsimp only; omega, by dsimp only; omega, (H101.only (is := [It.row 38 76 (.slice Ao s.out.length co) s.out.length (Pool.wc s.out), It.row 38 76 (.slice ArP (s.gone.length + 1) crP) (s.gone.length + 1) (Pool.wc s.gone ++ Pool.Wait.cells (Pool.put ⟨size, s.p.L⟩ (Pool.waitOf (l.getD k Pool.Come.zero) k s.now)).2.1), It.row 38 76 v1 (Pool.put ⟨size, s.p.L⟩ (Pool.waitOf (l.getD k Pool.Come.zero) k s.now)).1.L.length (Pool.wc (Pool.put ⟨size, s.p.L⟩ (Pool.waitOf (l.getD k Pool.Come.zero) k s.now)).1.L), It.blk bp 63 [i64 size, v1], It.blk b24 23 [.slice (some ⟨b23, 0, none⟩) 64 64], It.blk b23 3 (s.nx.map i64)]) (.cons (by repeat (first | exact Ph | apply Pt)) (.cons (by repeat (first | exact Ph | apply Pt)) (.cons (by repeat (first | exact Ph | apply Pt)) (.cons (by repeat (first | exact Ph | apply Pt)) (.cons (by repeat (first | exact Ph | apply Pt)) (.cons (by repeat (first | exact Ph | apply Pt)) (.nil _)))))))).weak ⟨rfl, rfl, rfl, rfl, rfl, fi rfl (by dsimp only; rw [hPl]), fi rfl (by dsimp only; rw [hPl]; dsimp only; first | rw [if_pos (by assumption)] | rw [if_neg (by assumption)]), fi rfl (by dsimp only; omega), trivial⟩ (by dsimp only; rw [hPl]; dsimp only; rw [if_pos (by assumption), Pool.wc_append, Pool.wc_one, List.length_append]; rfl)⟩) | (have hz := his2; refine ⟨(k + 1, (.slice Ao s.out.length co, (.slice Ag s.gone.length cg, v1))), by dsimp only; omega, by dsimp only; omega, (H101.only (is := [It.row 38 76 (.slice Ao s.out.length co) s.out.length (Pool.wc s.out), It.row 38 76 (.slice Ag s.gone.length cg) s.gone.length (Pool.wc s.gone), It.row 38 76 v1 (Pool.put ⟨size, s.p.L⟩ (Pool.waitOf (l.getD k Pool.Come.zero) k s.now)).1.L.length (Pool.wc (Pool.put ⟨size, s.p.L⟩ (Pool.waitOf (l.getD k Pool.Come.zero) k s.now)).1.L), It.blk bp 63 [i64 size, v1], It.blk b24 23 [.slice (some ⟨b23, 0, none⟩) 64 64], It.blk b23 3 (s.nx.map i64)]) (.cons (by repeat (first | exact Ph | apply Pt)) (.cons (by repeat (first | exact Ph | apply Pt)) (.cons (by repeat (first | exact Ph | apply Pt)) (.cons (by repeat (first | exact Ph | apply Pt)) (.cons (by repeat (first | exact Ph | apply Pt)) (.cons (by repeat (first | exact Ph | apply Pt)) (.nil _)))))))).weak ⟨rfl, rfl, rfl, rfl, rfl, fi rfl (by dsimp only; rw [hPl]), fi rfl (by dsimp only; rw [hPl]; dsimp only; first | rw [if_pos (by assumption)] | rw [if_neg (by assumption)]), fi rfl (by dsimp only; omega), trivial⟩ (by dsimp only; rw [hPl]; dsimp only; rw [if_neg (by first | assumption | (rw [his2]; exact Bool.false_ne_true))])⟩) | (refine ⟨(k + 1, (.slice Ao1 d.out.length co1, (.slice ArR (s.gone.length + (d.p.L.filter (Pool.isOld (s.now + 1))).length) crR, v2))), by dsimp only; omega, by dsimp only; omega, (H101.only (is := [It.row 38 76 (.slice Ao1 d.out.length co1) d.out.length (Pool.wc d.out), It.row 38 76 (.slice ArR (s.gone.length + (d.p.L.filter (Pool.isOld (s.now + 1))).length) crR) (s.gone.length + (d.p.L.filter (Pool.isOld (s.now + 1))).length) (Pool.wc s.gone ++ Pool.wc (d.p.L.filter (Pool.isOld (s.now + 1)))), It.row 38 76 v2 (d.p.L.filter fun w => !Pool.isOld (s.now + 1) w).length (Pool.wc (d.p.L.filter fun w => !Pool.isOld (s.now + 1) w)), It.blk bp 63 [i64 size, v2], It.blk b24 23 [.slice (some ⟨b23, 0, none⟩) 64 64], It.blk b23 3 (d.nx.map i64)]) (.cons (by repeat (first | exact Ph | apply Pt)) (.cons (by repeat (first | exact Ph | apply Pt)) (.cons (by repeat (first | exact Ph | apply Pt)) (.cons (by repeat (first | exact Ph | apply Pt)) (.cons (by repeat (first | exact Ph | apply Pt)) (.cons (by repeat (first | exact Ph | apply Pt)) (.nil _)))))))).weak ⟨rfl, rfl, rfl, rfl, rfl, fi rfl (by dsimp only; rw [hTk]), fi rfl (by dsimp only; rw [hTk]), fi rfl (by dsimp only; omega), trivial⟩ (by dsimp only; rw [hTk]; dsimp only; rw [Pool.wc_append, List.length_append])⟩)
              · skip
                try simp only [decide_eq_true_eq, decide_eq_false_iff_not, Bool.not_eq_true', Bool.not_eq_false', Bool.and_eq_true, Bool.not_eq_true, Bool.not_eq_false] at hc85
                have hok2 := hc85
                refine wp_skip ?_
                refine then_n ?_
                refine wp_seq ?_
                refine wp_seq ?_
                refine reg ?_
                refine plain (y_move rfl rfl) rfl rfl rfl H84 ?_
                clear H84; intro a102 H102
                refine fin ?_
                refine then_n ?_
                refine cnd H102 rfl (fun hc103 => ?_) (fun hc103 => ?_) -- cond 6
                · skip
                  try simp only [decide_eq_true_eq, decide_eq_false_iff_not, Bool.not_eq_true', Bool.not_eq_false', Bool.and_eq_true, Bool.not_eq_true, Bool.not_eq_false] at hc103
                  have his1 := hc103
                  refine reg ?_
                  refine plain (y_move rfl rfl) rfl rfl rfl H102 ?_
                  clear H102; intro a104 H104
                  refine plain (y_loadAB rfl z_agg38 z_size38 rfl (by repeat (first | exact Mh | apply Mt)) (q_ld_c8b32b32c4_0_76 (by assumption) (by assumption)) (q_len_c8b32b32c4 (by assumption) (by assumption))) rfl rfl rfl H104 ?_
                  clear H104; intro a105 H105
                  refine st_buildSlice rfl Try.underlying30 z_size38 z_zero38 rfl rfl rfl (lay_agg (agg_cells _) hxw.len rfl) rfl rfl rfl H105 ?_
                  clear H105; intro b106 a106 wx106 H106
                  refine st_append rfl z_slice30 z_notint30 rfl rfl (fun _ => (by repeat (first | exact Uh | apply Ut))) (fun w hs => Src.slice ((rd_blkA (by repeat (first | exact Mh | apply Mt))) w hs) hxw.len (Pool.wait_cell _)) (by unfold maxLen at *; omega) (by omega) rfl rfl rfl H106 ?_
                  clear H106; intro v107 a107 wx107 hnil107 H107
                  obtain ⟨ArP, crP, hvrP, hRrP, hmrP⟩ := row_shape (v := v107) H107.sep (by repeat (first | exact Mh | apply Mt))
                  subst hvrP
                  refine plain (y_assign rfl rfl) rfl rfl rfl H107 ?_
                  clear H107; intro a108 H108
                  refine fin ?_
                  refine then_n ?_
                  refine wp_exit ?_
                  refine then_x ?_
                  refine inb_hit ?_
                  refine then_n ?_
                  refine reg ?_
                  refine plain (y_move rfl rfl) rfl rfl rfl H108 ?_
                  clear H108; intro a109 H109
                  refine plain (y_add rfl rfl rfl (by first | exact w64 (by omega) (by omega) | rfl)) rfl rfl rfl H109 ?_
                  clear H109; intro a110 H110
                  refine plain (y_assign rfl rfl) rfl rfl rfl H110 ?_
                  clear H110; intro a111 H111
                  refine fin ?_
                  refine then_n ?_
                  first | (have hz := his1; refine ⟨(k + 1, (.slice Ao s.out.length co, (.slice ArP (s.gone.length + 1) crP, v1))), by dsimp only; omega, by dsimp only; omega, (H111.only (is := [It.row 38 76 (.slice Ao s.out.length co) s.out.length (Pool.wc s.out), It.row 38 76 (.slice ArP (s.gone.length + 1) crP) (s.gone.length + 1) (Pool.wc s.gone ++ Pool.Wait.cells (Pool.put ⟨size, s.p.L⟩ (Pool.waitOf (l.getD k Pool.Come.zero) k s.now)).2.1), It.row 38 76 v1 (Pool.put ⟨size, s.p.L⟩ (Pool.waitOf (l.getD k Pool.Come.zero) k s.now)).1.L.length (Pool.wc (Pool.put ⟨size, s.p.L⟩ (Pool.waitOf (l.getD k Pool.Come.zero) k s.now)).1.L), It.blk bp 63 [i64 size, v1], It.blk b24 23 [.slice (some ⟨b23, 0, none⟩) 64 64], It.blk b23 3 (s.nx.map i64)]) (.cons (by repeat (first | exact Ph | apply Pt)) (.cons (by repeat (first | exact Ph | apply Pt)) (.cons (by repeat (first | exact Ph | apply Pt)) (.cons (by repeat (first | exact Ph | apply Pt)) (.cons (by repeat (first | exact Ph | apply Pt)) (.cons (by repeat (first | exact Ph | apply Pt)) (.nil _)))))))).weak ⟨rfl, rfl, rfl, rfl, rfl, fi rfl (by dsimp only; rw [hPl]), fi rfl (by dsimp only; rw [hPl]; dsimp only; first | rw [if_pos (by assumption)] | rw [if_neg (by assumption)]), fi rfl (by dsimp only; omega), trivial⟩ (by dsimp only; rw [hPl]; dsimp only; rw [if_pos (by assumption), Pool.wc_append, Pool.wc_one, List.length_append]; rfl)⟩) | (have hz := his2; refine ⟨(k + 1, (.slice Ao s.out.length co, (.slice Ag s.gone.length cg, v1))), by dsimp only; omega, by dsimp only; omega, (H111.only (is := [It.row 38 76 (.slice Ao s.out.length co) s.out.length (Pool.wc s.out), It.row 38 76 (.slice Ag s.gone.length cg) s.gone.length (Pool.wc s.gone), It.row 38 76 v1 (Pool.put ⟨size, s.p.L⟩ (Pool.waitOf (l.getD k Pool.Come.zero) k s.now)).1.L.length (Pool.wc (Pool.put ⟨size, s.p.L⟩ (Pool.waitOf (l.getD k Pool.Come.zero) k s.now)).1.L), It.blk bp 63 [i64 size, v1], It.blk b24 23 [.slice (some ⟨b23, 0, none⟩) 64 64], It.blk b23 3 (s.nx.map i64)]) (.cons (by repeat (first | exact Ph | apply Pt)) (.cons (by repeat (first | exact Ph | apply Pt)) (.cons (by repeat (first | exact Ph | apply Pt)) (.cons (by repeat (first | exact Ph | apply Pt)) (.cons (by repeat (first | exact Ph | apply Pt)) (.cons (by repeat (first | exact Ph | apply Pt)) (.nil _)))))))).weak ⟨rfl, rfl, rfl, rfl, rfl, fi rfl (by dsimp only; rw [hPl]), fi rfl (by dsimp only; rw [hPl]; dsimp only; first | rw [if_pos (by assumption)] | rw [if_neg (by assumption)]), fi rfl (by dsimp only; omega), trivial⟩ (by dsimp only; rw [hPl]; dsimp only; rw [if_neg (by first | assumption | (rw [his2]; exact Bool.false_ne_true))])⟩) | (refine ⟨(k + 1, (.slice Ao1 d.out.length co1, (.slice ArR (s.gone.length + (d.p.L.filter (Pool.isOld (s.now + 1))).length) crR, v2))), by dsimp only; omega, by dsimp only; omega, (H111.only (is := [It.row 38 76 (.slice Ao1 d.out.length co1) d.out.length (Pool.wc d.out), It.row 38 76 (.slice ArR (s.gone.length + (d.p.L.filter (Pool.isOld (s.now + 1))).length) crR) (s.gone.length + (d.p.L.filter (Pool.isOld (s.now + 1))).length) (Pool.wc s.gone ++ Pool.wc (d.p.L.filter (Pool.isOld (s.now + 1)))), It.row 38 76 v2 (d.p.L.filter fun w => !Pool.isOld (s.now + 1) w).length (Pool.wc (d.p.L.filter fun w => !Pool.isOld (s.now + 1) w)), It.blk bp 63 [i64 size, v2], It.blk b24 23 [.slice (some ⟨b23, 0, none⟩) 64 64], It.blk b23 3 (d.nx.map i64)]) (.cons (by repeat (first | exact Ph | apply Pt)) (.cons (by repeat (first | exact Ph | apply Pt)) (.cons (by repeat (first | exact Ph | apply Pt)) (.cons (by repeat (first | exact Ph | apply Pt)) (.cons (by repeat (first | exact Ph | apply Pt)) (.cons (by repeat (first | exact Ph | apply Pt)) (.nil _)))))))).weak ⟨rfl, rfl, rfl, rfl, rfl, fi rfl (by dsimp only; rw [hTk]), fi rfl (by dsimp only; rw [hTk]), fi rfl (by dsimp only; omega), trivial⟩ (by dsimp only; rw [hTk]; dsimp only; rw [Pool.wc_append, List.length_append])⟩)
                · skip
                  try simp only [decide_eq_true_eq, decide_eq_false_iff_not, Bool.not_eq_true', Bool.not_eq_false', Bool.and_eq_true, Bool.not_eq_true, Bool.not_eq_false] at hc103
                  have his2 := hc103
                  refine wp_skip ?_
                  refine then_n ?_
                  refine wp_exit ?_
                  refine then_x ?_
                  refine inb_hit ?_
                  refine then_n ?_
                  refine reg ?_
                  refine plain (y_move rfl rfl) rfl rfl rfl H102 ?_
                  clear H102; intro a112 H112
                  refine plain (y_add rfl rfl rfl (by first | exact w64 (by omega) (by omega) | rfl)) rfl rfl rfl H112 ?_
                  clear H112; intro a113 H113
                  refine plain (y_assign rfl rfl) rfl rfl rfl H113 ?_
                  clear H113; intro a114 H114
                  refine fin ?_
                  refine then_n ?_
                  first | (have hz := his1; refine ⟨(k + 1, (.slice Ao s.out.length co, (.slice ArP (s.gone.length + 1) crP, v1))), by dsimp only; omega, by dsimp only; omega, (H114.only (is := [It.row 38 76 (.slice Ao s.out.length co) s.out.length (Pool.wc s.out), It.row 38 76 (.slice ArP (s.gone.length + 1) crP) (s.gone.length + 1) (Pool.wc s.gone ++ Pool.Wait.cells (Pool.put ⟨size, s.p.L⟩ (Pool.waitOf (l.getD k Pool.Come.zero) k s.now)).2.1), It.row 38 76 v1 (Pool.put ⟨size, s.p.L⟩ (Pool.waitOf (l.getD k Pool.Come.zero) k s.now)).1.L.length (Pool.wc (Pool.put ⟨size, s.p.L⟩ (Pool.waitOf (l.getD k Pool.Come.zero) k s.now)).1.L), It.blk bp 63 [i64 size, v1], It.blk b24 23 [.slice (some ⟨b23, 0, none⟩) 64 64], It.blk b23 3 (s.nx.map i64)]) (.cons (by repeat (first | exact Ph | apply Pt)) (.cons (by repeat (first | exact Ph | apply Pt)) (.cons (by repeat (first | exact Ph | apply Pt)) (.cons (by repeat (first | exact Ph | apply Pt)) (.cons (by repeat (first | exact Ph | apply Pt)) (.cons (by repeat (first | exact Ph | apply Pt)) (.nil _)))))))).weak ⟨rfl, rfl, rfl, rfl, rfl, fi rfl (by dsimp only; rw [hPl]), fi rfl (by dsimp only; rw [hPl]; dsimp only; first | rw [if_pos (by assumption)] | rw [if_neg (by assumption)]), fi rfl (by dsimp only; omega), trivial⟩ (by dsimp only; rw [hPl]; dsimp only; rw [if_pos (by assumption), Pool.wc_append, Pool.wc_one, List.length_append]; rfl)⟩) | (have hz := his2; refine ⟨(k + 1, (.slice Ao s.out.length co, (.slice Ag s.gone.length cg, v1))), by dsimp only; omega, by dsimp only; omega, (H114.only (is := [It.row 38 76 (.slice Ao s.out.length co) s.out.length (Pool.wc s.out), It.row 38 76 (.slice Ag s.gone.length cg) s.gone.length (Pool.wc s.gone), It.row 38 76 v1 (Pool.put ⟨size, s.p.L⟩ (Pool.waitOf (l.getD k Pool.Come.zero) k s.now)).1.L.length (Pool.wc (Pool.put ⟨size, s.p.L⟩ (Pool.waitOf (l.getD k Pool.Come.zero) k s.now)).1.L), It.blk bp 63 [i64 size, v1], It.blk b24 23 [.slice (some ⟨b23, 0, none⟩) 64 64], It.blk b23 3 (s.nx.map i64)]) (.cons (by repeat (first | exact Ph | apply Pt)) (.cons (by repeat (first | exact Ph | apply Pt)) (.cons (by repeat (first | exact Ph | apply Pt)) (.cons (by repeat (first | exact Ph | apply Pt)) (.cons (by repeat (first | exact Ph | apply Pt)) (.cons (by repeat (first | exact Ph | apply Pt)) (.nil _)))))))).weak ⟨rfl, rfl, rfl, rfl, rfl, fi rfl (by dsimp only; rw [hPl]), fi rfl (by dsimp only; rw [hPl]; dsimp only; first | rw [if_pos (by assumption)] | rw [if_neg (by assumption)]), fi rfl (by dsimp only; omega), trivial⟩ (by dsimp only; rw [hPl]; dsimp only; rw [if_neg (by first | assumption | (rw [his2]; exact Bool.false_ne_true))])⟩) | (refine ⟨(k + 1, (.slice Ao1 d.out.length co1, (.slice ArR (s.gone.length + (d.p.L.filter (Pool.isOld (s.now + 1))).length) crR, v2))), by dsimp only; omega, by dsimp only; omega, (H114.only (is := [It.row 38 76 (.slice Ao1 d.out.length co1) d.out.length (Pool.wc d.out), It.row 38 76 (.slice ArR (s.gone.length + (d.p.L.filter (Pool.isOld (s.now + 1))).length) crR) (s.gone.length + (d.p.L.filter (Pool.isOld (s.now + 1))).length) (Pool.wc s.gone ++ Pool.wc (d.p.L.filter (Pool.isOld (s.now + 1)))), It.row 38 76 v2 (d.p.L.filter fun w => !Pool.isOld (s.now + 1) w).length (Pool.wc (d.p.L.filter fun w => !Pool.isOld (s.now + 1) w)), It.blk bp 63 [i64 size, v2], It.blk b24 23 [.slice (some ⟨b23, 0, none⟩) 64 64], It.blk b23 3 (d.nx.map i64)]) (.cons (by repeat (first | exact Ph | apply Pt)) (.cons (by repeat (first | exact Ph | apply Pt)) (.cons (by repeat (first | exact Ph | apply Pt)) (.cons (by repeat (first | exact Ph | apply Pt)) (.cons (by repeat (first | exact Ph | apply Pt)) (.cons (by repeat (first | exact Ph | apply Pt)) (.nil _)))))))).weak ⟨rfl, rfl, rfl, rfl, rfl, fi rfl (by dsimp only; rw [hTk]), fi rfl (by dsimp only; rw [hTk]), fi rfl (by dsimp only; omega), trivial⟩ (by dsimp only; rw [hTk]; dsimp only; rw [Pool.wc_append, List.length_append])⟩)
            · skip
              refine st_alloc rfl z_zeroN38 rfl rfl rfl H73 ?_
              clear H73; intro b115 a115 wx115 H115
              refine hfinA H115.sep ?_
              refine hgo 25 rfl (by kernel_rfl) ?_
              refine st_callk2 (is := [It.row 38 76 v s.p.L.length (Pool.wc s.p.L), It.blk bp 63 [i64 size, v]]) (enters_call rfl z_call10 rfl) rfl rfl rfl H115 (.cons (by repeat (first | exact Ph | apply Pt)) (.cons (by repeat (first | exact Ph | apply Pt)) (.nil _))) (fun hs => pput s.p.L hY.wl size bp v hlen hY.good (Pool.waitOf (l.getD k Pool.Come.zero) k s.now) ww hs) ?_
              clear H115; intro v116 l116 a116 wx116 hf116 H116
              obtain ⟨rfl, v1, rfl⟩ := hf116
              simp only [List.cons_append, List.nil_append] at H116
              refine hfinA H116.sep ?_
              refine htake 26 rfl (by kernel_rfl) (y_move rfl rfl) rfl rfl rfl (fun _ h => (h.sub (by first | exact S0 | exact S1 | repeat (first | exact S1 | exact S0 | apply S2 | apply S3)))) H116 ?_
              clear H116; intro a117 H117
              refine htake 27 rfl (by kernel_rfl) (y_extract rfl rfl rfl) rfl rfl rfl (fun _ h => (h.sub (by first | exact S0 | exact S1 | repeat (first | exact S1 | exact S0 | apply S2 | apply S3)))) H117 ?_
              clear H117; intro a118 H118
              refine htake 28 rfl (by kernel_rfl) (y_extract rfl rfl rfl) rfl rfl rfl (fun _ h => (h.sub (by first | exact S0 | exact S1 | repeat (first | exact S1 | exact S0 | apply S2 | apply S3)))) H118 ?_
              clear H118; intro a119 H119
              refine htake 29 rfl (by kernel_rfl) (y_extract rfl rfl rfl) rfl rfl rfl (fun _ h => (h.sub (by first | exact S0 | exact S1 | repeat (first | exact S1 | exact S0 | apply S2 | apply S3)))) H119 ?_
              clear H119; intro a120 H120
              refine hgo 31 rfl (by kernel_rfl) ?_
              refine st_storeN rfl z_size38 rfl rfl (agg_cells _) (by repeat (first | exact Uh | apply Ut)) (q_one_c8b32b32c4 rfl rfl rfl rfl rfl rfl rfl rfl rfl rfl rfl rfl) (q_len_c8b32b32c4 (by assumption) (by assumption)) (q_len_c8b32b32c4 (by assumption) (by assumption)) (q_spl_c8b32b32c4_0_c8b32b32c4 (by assumption) (by assumption) (by assumption) (by assumption)) (by decide) rfl rfl H120 ?_
              clear H120; intro wx121 H121
              refine hfinA H121.sep ?_
              refine htake 32 rfl (by kernel_rfl) (y_assign rfl rfl) rfl rfl rfl (fun _ h => (h.sub (by first | exact S0 | exact S1 | repeat (first | exact S1 | exact S0 | apply S2 | apply S3)))) H121 ?_
              clear H121; intro a122 H122
              refine htake 33 rfl (by kernel_rfl) (y_assign rfl rfl) rfl rfl rfl (fun _ h => (h.sub (by first | exact S0 | exact S1 | repeat (first | exact S1 | exact S0 | apply S2 | apply S3)))) H122 ?_
              clear H122; intro a123 H123
              refine hdone (by kernel_rfl) ?_
              refine then_n ?_
              refine wp_seq ?_
              refine wp_seq ?_
              refine reg ?_
              refine plain (y_move rfl rfl) rfl rfl rfl H123 ?_
              clear H123; intro a124 H124
              refine plain (y_eql rfl rfl rfl) rfl rfl rfl H124 ?_
              clear H124; intro a125 H125
              refine fin ?_
              refine then_n ?_
              refine cnd H125 rfl (fun hc126 => ?_) (fun hc126 => ?_) -- cond 7
              · skip
                try simp only [decide_eq_true_eq, decide_eq_false_iff_not, Bool.not_eq_true', Bool.not_eq_false', Bool.and_eq_true, Bool.not_eq_true, Bool.not_eq_false] at hc126
                have hok1 := hc126
                refine reg ?_
                refine plain (y_move rfl rfl) rfl rfl rfl H125 ?_
                clear H125; intro a127 H127
                refine plain (y_add rfl rfl rfl (by first | exact w64 (by omega) (by omega) | rfl)) rfl rfl rfl H127 ?_
                clear H127; intro a128 H128
                refine plain (y_assign rfl rfl) rfl rfl rfl H128 ?_
                clear H128; intro a129 H129
                refine fin ?_
                refine then_n ?_
                refine wp_seq ?_
                refine wp_seq ?_
                refine reg ?_
                refine plain (y_move rfl rfl) rfl rfl rfl H129 ?_
                clear H129; intro a130 H130
                refine fin ?_
                refine then_n ?_
                refine cnd H130 rfl (fun hc131 => ?_) (fun hc131 => ?_) -- cond 8
                · skip
                  try simp only [decide_eq_true_eq, decide_eq_false_iff_not, Bool.not_eq_true', Bool.not_eq_false', Bool.and_eq_true, Bool.not_eq_true, Bool.not_eq_false] at hc131
                  have his1 := hc131
                  refine reg ?_
                  refine plain (y_move rfl rfl) rfl rfl rfl H130 ?_
                  clear H130; intro a132 H132
                  refine plain (y_loadAB rfl z_agg38 z_size38 rfl (by repeat (first | exact Mh | apply Mt)) (q_ld_c8b32b32c4_0_76 (by assumption) (by assumption)) (q_len_c8b32b32c4 (by assumption) (by assumption))) rfl rfl rfl H132 ?_
                  clear H132; intro a133 H133
                  refine st_buildSlice rfl Try.underlying30 z_size38 z_zero38 rfl rfl rfl (lay_agg (agg_cells _) hxw.len rfl) rfl rfl rfl H133 ?_
                  clear H133; intro b134 a134 wx134 H134
                  refine st_append rfl z_slice30 z_notint30 rfl rfl (fun _ => (by repeat (first | exact Uh | apply Ut))) (fun w hs => Src.slice ((rd_blkA (by repeat (first | exact Mh | apply Mt))) w hs) hxw.len (Pool.wait_cell _)) (by unfold maxLen at *; omega) (by omega) rfl rfl rfl H134 ?_
                  clear H134; intro v135 a135 wx135 hnil135 H135
                  obtain ⟨ArP, crP, hvrP, hRrP, hmrP⟩ := row_shape (v := v135) H135.sep (by repeat (first | exact Mh | apply Mt))
                  subst hvrP
                  refine plain (y_assign rfl rfl) rfl rfl rfl H135 ?_
                  clear H135; intro a136 H136
                  refine fin ?_
                  refine then_n ?_
                  refine wp_exit ?_
                  refine then_x ?_
                  refine inb_hit ?_
                  refine then_n ?_
                  refine reg ?_
                  refine plain (y_move rfl rfl) rfl rfl rfl H136 ?_
                  clear H136; intro a137 H137
                  refine plain (y_add rfl rfl rfl (by first | exact w64 (by omega) (by omega) | rfl)) rfl rfl rfl H137 ?_
                  clear H137; intro a138 H138
                  refine plain (y_assign rfl rfl) rfl rfl rfl H138 ?_
                  clear H138; intro a139 H139
                  refine fin ?_
                  refine then_n ?_
                  first | (have hz := his1; refine ⟨(k + 1, (.slice Ao s.out.length co, (.slice ArP (s.gone.length + 1) crP, v1))), by dsimp only; omega, by dsimp only; omega, (H139.only (is := [It.row 38 76 (.slice Ao s.out.length co) s.out.length (Pool.wc s.out), It.row 38 76 (.slice ArP (s.gone.length + 1) crP) (s.gone.length + 1) (Pool.wc s.gone ++ Pool.Wait.cells (Pool.put ⟨size, s.p.L⟩ (Pool.waitOf (l.getD k Pool.Come.zero) k s.now)).2.1), It.row 38 76 v1 (Pool.put ⟨size, s.p.L⟩ (Pool.waitOf (l.getD k Pool.Come.zero) k s.now)).1.L.length (Pool.wc (Pool.put ⟨size, s.p.L⟩ (Pool.waitOf (l.getD k Pool.Come.zero) k s.now)).1.L), It.blk bp 63 [i64 size, v1], It.blk b24 23 [.slice (some ⟨b23, 0, none⟩) 64 64], It.blk b23 3 (s.nx.map i64)]) (.cons (by repeat (first | exact Ph | apply Pt)) (.cons (by repeat (first | exact Ph | apply Pt)) (.cons (by repeat (first | exact Ph | apply Pt)) (.cons (by repeat (first | exact Ph | apply Pt)) (.cons (by repeat (first | exact Ph | apply Pt)) (.cons (by repeat (first | exact Ph | apply Pt)) (.nil _)))))))).weak ⟨rfl, rfl, rfl, rfl, rfl, fi rfl (by dsimp only; rw [hPl]), fi rfl (by dsimp only; rw [hPl]; dsimp only; first | rw [if_pos (by assumption)] | rw [if_neg (by assumption)]), fi rfl (by dsimp only; omega), trivial⟩ (by dsimp only; rw [hPl]; dsimp only; rw [if_pos (by assumption), Pool.wc_append, Pool.wc_one, List.length_append]; rfl)⟩) | (have hz := his2; refine ⟨(k + 1, (.slice Ao s.out.length co, (.slice Ag s.gone.length cg, v1))), by dsimp only; omega, by dsimp only; omega, (H139.only (is := [It.row 38 76 (.slice Ao s.out.length co) s.out.length (Pool.wc s.out), It.row 38 76 (.slice Ag s.gone.length cg) s.gone.length (Pool.wc s.gone), It.row 38 76 v1 (Pool.put ⟨size, s.p.L⟩ (Pool.waitOf (l.getD k Pool.Come.zero) k s.now)).1.L.length (Pool.wc (Pool.put ⟨size, s.p.L⟩ (Pool.waitOf (l.getD k Pool.Come.zero) k s.now)).1.L), It.blk bp 63 [i64 size, v1], It.blk b24 23 [.slice (some ⟨b23, 0, none⟩) 64 64], It.blk b23 3 (s.nx.map i64)]) (.cons (by repeat (first | exact Ph | apply Pt)) (.cons (by repeat (first | exact Ph | apply Pt)) (.cons (by repeat (first | exact Ph | apply Pt)) (.cons (by repeat (first | exact Ph | apply Pt)) (.cons (by repeat (first | exact Ph | apply Pt)) (.cons (by repeat (first | exact Ph | apply Pt)) (.nil _)))))))).weak ⟨rfl, rfl, rfl, rfl, rfl, fi rfl (by dsimp only; rw [hPl]), fi rfl (by dsimp only; rw [hPl]; dsimp only; first | rw [if_pos (by assumption)] | rw [if_neg (by assumption)]), fi rfl (by dsimp only; omega), trivial⟩ (by dsimp only; rw [hPl]; dsimp only; rw [if_neg (by first | assumption | (rw [his2]; exact Bool.false_ne_true))])⟩) | (refine ⟨(k + 1, (.slice Ao1 d.out.length co1, (.slice ArR (s.gone.length + (d.p.L.filter (Pool.isOld (s.now + 1))).length) crR, v2))), by dsimp only; omega, by dsimp only; omega, (H139.only (is := [It.row 38 76 (.slice Ao1 d.out.length co1) d.out.length (Pool.wc d.out), It.row 38 76 (.slice ArR (s.gone.length + (d.p.L.filter (Pool.isOld (s.now + 1))).length) crR) (s.gone.length + (d.p.L.filter (Pool.isOld (s.now + 1))).length) (Pool.wc s.gone ++ Pool.wc (d.p.L.filter (Pool.isOld (s.now + 1)))), It.row 38 76 v2 (d.p.L.filter fun w => !Pool.isOld (s.now + 1) w).length (Pool.wc (d.p.L.filter fun w => !Pool.isOld (s.now + 1) w)), It.blk bp 63 [i64 size, v2], It.blk b24 23 [.slice (some ⟨b23, 0, none⟩) 64 64], It.blk b23 3 (d.nx.map i64)]) (.cons (by repeat (first | exact Ph | apply Pt)) (.cons (by repeat (first | exact Ph | apply Pt)) (.cons (by repeat (first | exact Ph | apply Pt)) (.cons (by repeat (first | exact Ph | apply Pt)) (.cons (by repeat (first | exact Ph | apply Pt)) (.cons (by repeat (first | exact Ph | apply Pt)) (.nil _)))))))).weak ⟨rfl, rfl, rfl, rfl, rfl, fi rfl (by dsimp only; rw [hTk]), fi rfl (by dsimp only; rw [hTk]), fi rfl (by dsimp only; omega), trivial⟩ (by dsimp only; rw [hTk]; dsimp only; rw [Pool.wc_append, List.length_append])⟩)
                · skip
                  try simp only [decide_eq_true_eq, decide_eq_false_iff_not, Bool.not_eq_true', Bool.not_eq_false', Bool.and_eq_true, Bool.not_eq_true, Bool.not_eq_false] at hc131
                  have his2 := hc131
                  refine wp_skip ?_
                  refine then_n ?_
                  refine wp_exit ?_
                  refine then_x ?_
                  refine inb_hit ?_
                  refine then_n ?_
                  refine reg ?_
                  refine plain (y_move rfl rfl) rfl rfl rfl H130 ?_
                  clear H130; intro a140 H140
                  refine plain (y_add rfl rfl rfl (by first | exact w64 (by omega) (by omega) | rfl)) rfl rfl rfl H140 ?_
                  clear H140; intro a141 H141
                  refine plain (y_assign rfl rfl) rfl rfl rfl H141 ?_
                  clear H141; intro a142 H142
                  refine fin ?_
                  refine then_n ?_
                  first | (have hz := his1; refine ⟨(k + 1, (.slice Ao s.out.length co, (.slice ArP (s.gone.length + 1) crP, v1))), by dsimp only; omega, by dsimp only; omega, (H142.only (is := [It.row 38 76 (.slice Ao s.out.length co) s.out.length (Pool.wc s.out), It.row 38 76 (.slice ArP (s.gone.length + 1) crP) (s.gone.length + 1) (Pool.wc s.gone ++ Pool.Wait.cells (Pool.put ⟨size, s.p.L⟩ (Pool.waitOf (l.getD k Pool.Come.zero) k s.now)).2.1), It.row 38 76 v1 (Pool.put ⟨size, s.p.L⟩ (Pool.waitOf (l.getD k Pool.Come.zero) k s.now)).1.L.length (Pool.wc (Pool.put ⟨size, s.p.L⟩ (Pool.waitOf (l.getD k Pool.Come.zero) k s.now)).1.L), It.blk bp 63 [i64 size, v1], It.blk b24 23 [.slice (some ⟨b23, 0, none⟩) 64 64], It.blk b23 3 (s.nx.map i64)]) (.cons (by repeat (first | exact Ph | apply Pt)) (.cons (by repeat (first | exact Ph | apply Pt)) (.cons (by repeat (first | exact Ph | apply Pt)) (.cons (by repeat (first | exact Ph | apply Pt)) (.cons (by repeat (first | exact Ph | apply Pt)) (.cons (by repeat (first | exact Ph | apply Pt)) (.nil _)))))))).weak ⟨rfl, rfl, rfl, rfl, rfl, fi rfl (by dsimp only; rw [hPl]), fi rfl (by dsimp only; rw [hPl]; dsimp only; first | rw [if_pos (by assumption)] | rw [if_neg (by assumption)]), fi rfl (by dsimp only; omega), trivial⟩ (by dsimp only; rw [hPl]; dsimp only; rw [if_pos (by assumption), Pool.wc_append, Pool.wc_one, List.length_append]; rfl)⟩) | (have hz := his2; refine ⟨(k + 1, (.slice Ao s.out.length co, (.slice Ag s.gone.length cg, v1))), by dsimp only; omega, by dsimp only; omega, (H142.only (is := [It.row 38 76 (.slice Ao s.out.length co) s.out.length (Pool.wc s.out), It.row 38 76 (.slice Ag s.gone.length cg) s.gone.length (Pool.wc s.gone), It.row 38 76 v1 (Pool.put ⟨size, s.p.L⟩ (Pool.waitOf (l.getD k Pool.Come.zero) k s.now)).1.L.length (Pool.wc (Pool.put ⟨size, s.p.L⟩ (Pool.waitOf (l.getD k Pool.Come.zero) k s.now)).1.L), It.blk bp 63 [i64 size, v1], It.blk b24 23 [.slice (some ⟨b23, 0, none⟩) 64 64], It.blk b23 3 (s.nx.map i64)]) (.cons (by repeat (first | exact Ph | apply Pt)) (.cons (by repeat (first | exact Ph | apply Pt)) (.cons (by repeat (first | exact Ph | apply Pt)) (.cons (by repeat (first | exact Ph | apply Pt)) (.cons (by repeat (first | exact Ph | apply Pt)) (.cons (by repeat (first | exact Ph | apply Pt)) (.nil _)))))))).weak ⟨rfl, rfl, rfl, rfl, rfl, fi rfl (by dsimp only; rw [hPl]), fi rfl (by dsimp only; rw [hPl]; dsimp only; first | rw [if_pos (by assumption)] | rw [if_neg (by assumption)]), fi rfl (by dsimp only; omega), trivial⟩ (by dsimp only; rw [hPl]; dsimp only; rw [if_neg (by first | assumption | (rw [his2]; exact Bool.false_ne_true))])⟩) | (refine ⟨(k + 1, (.slice Ao1 d.out.length co1, (.slice ArR (s.gone.length + (d.p.L.filter (Pool.isOld (s.now + 1))).length) crR, v2))), by dsimp only; omega, by dsimp only; omega, (H142.only (is := [It.row 38 76 (.slice Ao1 d.out.length co1) d.out.length (Pool.wc d.out), It.row 38 76 (.slice ArR (s.gone.length + (d.p.L.filter (Pool.isOld (s.now + 1))).length) crR) (s.gone.length + (d.p.L.filter (Pool.isOld (s.now + 1))).length) (Pool.wc s.gone ++ Pool.wc (d.p.L.filter (Pool.isOld (s.now + 1)))), It.row 38 76 v2 (d.p.L.filter fun w => !Pool.isOld (s.now + 1) w).length (Pool.wc (d.p.L.filter fun w => !Pool.isOld (s.now + 1) w)), It.blk bp 63 [i64 size, v2], It.blk b24 23 [.slice (some ⟨b23, 0, none⟩) 64 64], It.blk b23 3 (d.nx.map i64)]) (.cons (by repeat (first | exact Ph | apply Pt)) (.cons (by repeat (first | exact Ph | apply Pt)) (.cons (by repeat (first | exact Ph | apply Pt)) (.cons (by repeat (first | exact Ph | apply Pt)) (.cons (by repeat (first | exact Ph | apply Pt)) (.cons (by repeat (first | exact Ph | apply Pt)) (.nil _)))))))).weak ⟨rfl, rfl, rfl, rfl, rfl, fi rfl (by dsimp only; rw [hTk]), fi rfl (by dsimp only; rw [hTk]), fi rfl (by dsimp only; omega), trivial⟩ (by dsimp only; rw [hTk]; dsimp only; rw [Pool.wc_append, List.length_append])⟩)
              · skip
                try simp only [decide_eq_true_eq, decide_eq_false_iff_not, Bool.not_eq_true', Bool.not_eq_false', Bool.and_eq_true, Bool.not_eq_true, Bool.not_eq_false] at hc126
                have hok2 := hc126
                refine wp_skip ?_
                refine then_n ?_
                refine wp_seq ?_
                refine wp_seq ?_
                refine reg ?_
                refine plain (y_move rfl rfl) rfl rfl rfl H125 ?_
                clear H125; intro a143 H143
                refine fin ?_
                refine then_n ?_
                refine cnd H143 rfl (fun hc144 => ?_) (fun hc144 => ?_) -- cond 9
                · skip
                  try simp only [decide_eq_true_eq, decide_eq_false_iff_not, Bool.not_eq_true', Bool.not_eq_false', Bool.and_eq_true, Bool.not_eq_true, Bool.not_eq_false] at hc144
                  have his1 := hc144
                  refine reg ?_
                  refine plain (y_move rfl rfl) rfl rfl rfl H143 ?_
                  clear H143; intro a145 H145
                  refine plain (y_loadAB rfl z_agg38 z_size38 rfl (by repeat (first | exact Mh | apply Mt)) (q_ld_c8b32b32c4_0_76 (by assumption) (by assumption)) (q_len_c8b32b32c4 (by assumption) (by assumption))) rfl rfl rfl H145 ?_
                  clear H145; intro a146 H146
                  refine st_buildSlice rfl Try.underlying30 z_size38 z_zero38 rfl rfl rfl (lay_agg (agg_cells _) hxw.len rfl) rfl rfl rfl H146 ?_
                  clear H146; intro b147 a147 wx147 H147
                  refine st_append rfl z_slice30 z_notint30 rfl rfl (fun _ => (by repeat (first | exact Uh | apply Ut))) (fun w hs => Src.slice ((rd_blkA (by repeat (first | exact Mh | apply Mt))) w hs) hxw.len (Pool.wait_cell _)) (by unfold maxLen at *; omega) (by omega) rfl rfl rfl H147 ?_
                  clear H147; intro v148 a148 wx148 hnil148 H148
                  obtain ⟨ArP, crP, hvrP, hRrP, hmrP⟩ := row_shape (v := v148) H148.sep (by repeat (first | exact Mh | apply Mt))
                  subst hvrP
                  refine plain (y_assign rfl rfl) rfl rfl rfl H148 ?_
                  clear H148; intro a149 H149
                  refine fin ?_
                  refine then_n ?_
                  refine wp_exit ?_
                  refine then_x ?_
                  refine inb_hit ?_
                  refine then_n ?_
                  refine reg ?_
                  refine plain (y_move rfl rfl) rfl rfl rfl H149 ?_
                  clear H149; intro a150 H150
                  refine plain (y_add rfl rfl rfl (by first | exact w64 (by omega) (by omega) | rfl)) rfl rfl rfl H150 ?_
                  clear H150; intro a151 H151
                  refine plain (y_assign rfl rfl) rfl rfl rfl H151 ?_
                  clear H151; intro a152 H152
                  refine fin ?_
                  refine then_n ?_
                  first | (have hz := his1; refine ⟨(k + 1, (.slice Ao s.out.length co, (.slice ArP (s.gone.length + 1) crP, v1))), by dsimp only; omega, by dsimp only; omega, (H152.only (is := [It.row 38 76 (.slice Ao s.out.length co) s.out.length (Pool.wc s.out), It.row 38 76 (.slice ArP (s.gone.length + 1) crP) (s.gone.length + 1) (Pool.wc s.gone ++ Pool.Wait.cells (Pool.put ⟨size, s.p.L⟩ (Pool.waitOf (l.getD k Pool.Come.zero) k s.now)).2.1), It.row 38 76 v1 (Pool.put ⟨size, s.p.L⟩ (Pool.waitOf (l.getD k Pool.Come.zero) k s.now)).1.L.length (Pool.wc (Pool.put ⟨size, s.p.L⟩ (Pool.waitOf (l.getD k Pool.Come.zero) k s.now)).1.L), It.blk bp 63 [i64 size, v1], It.blk b24 23 [.slice (some ⟨b23, 0, none⟩) 64 64], It.blk b23 3 (s.nx.map i64)]) (.cons (by repeat (first | exact Ph | apply Pt)) (.cons (by repeat (first | exact Ph | apply Pt)) (.cons (by repeat (first | exact Ph | apply Pt)) (.cons (by repeat (first | exact Ph | apply Pt)) (.cons (by repeat (first | exact Ph | apply Pt)) (.cons (by repeat (first | exact Ph | apply Pt)) (.nil _)))))))).weak ⟨rfl, rfl, rfl, rfl, rfl, fi rfl (by dsimp only; rw [hPl]), fi rfl (by dsimp only; rw [hPl]; dsimp only; first | rw [if_pos (by assumption)] | rw [if_neg (by assumption)]), fi rfl (by dsimp only; omega), trivial⟩ (by dsimp only; rw [hPl]; dsimp only; rw [if_pos (by assumption), Pool.wc_append, Pool.wc_one, List.length_append]; rfl)⟩) | (have hz := his2; refine ⟨(k + 1, (.slice Ao s.out.length co, (.slice Ag s.gone.length cg, v1))), by dsimp only; omega, by dsimp only; omega, (H152.only (is := [It.row 38 76 (.slice Ao s.out.length co) s.out.length (Pool.wc s.out), It.row 38 76 (.slice Ag s.gone.length cg) s.gone.length (Pool.wc s.gone), It.row 38 76 v1 (Pool.put ⟨size, s.p.L⟩ (Pool.waitOf (l.getD k Pool.Come.zero) k s.now)).1.L.length (Pool.wc (Pool.put ⟨size, s.p.L⟩ (Pool.waitOf (l.getD k Pool.Come.zero) k s.now)).1.L), It.blk bp 63 [i64 size, v1], It.blk b24 23 [.slice (some ⟨b23, 0, none⟩) 64 64], It.blk b23 3 (s.nx.map i64)]) (.cons (by repeat (first | exact Ph | apply Pt)) (.cons (by repeat (first | exact Ph | apply Pt)) (.cons (by repeat (first | exact Ph | apply Pt)) (.cons (by repeat (first | exact Ph | apply Pt)) (.cons (by repeat (first | exact Ph | apply Pt)) (.cons (by repeat (first | exact Ph | apply Pt)) (.nil _)))))))).weak ⟨rfl, rfl, rfl, rfl, rfl, fi rfl (by dsimp only; rw [hPl]), fi rfl (by dsimp only; rw [hPl]; dsimp only; first | rw [if_pos (by assumption)] | rw [if_neg (by assumption)]), fi rfl (by dsimp only; omega), trivial⟩ (by dsimp only; rw [hPl]; dsimp only; rw [if_neg (by first | assumption | (rw [his2]; exact Bool.false_ne_true))])⟩) | (refine ⟨(k + 1, (.slice Ao1 d.out.length co1, (.slice ArR (s.gone.length + (d.p.L.filter (Pool.isOld (s.now + 1))).length) crR, v2))), by dsimp only; omega, by dsimp only; omega, (H152.only (is := [It.row 38 76 (.slice Ao1 d.out.length co1) d.out.length (Pool.wc d.out), It.row 38 76 (.slice ArR (s.gone.length + (d.p.L.filter (Pool.isOld (s.now + 1))).length) crR) (s.gone.length + (d.p.L.filter (Pool.isOld (s.now + 1))).length) (Pool.wc s.gone ++ Pool.wc (d.p.L.filter (Pool.isOld (s.now + 1)))), It.row 38 76 v2 (d.p.L.filter fun w => !Pool.isOld (s.now + 1) w).length (Pool.wc (d.p.L.filter fun w => !Pool.isOld (s.now + 1) w)), It.blk bp 63 [i64 size, v2], It.blk b24 23 [.slice (some ⟨b23, 0, none⟩) 64 64], It.blk b23 3 (d.nx.map i64)]) (.cons (by repeat (first | exact Ph | apply Pt)) (.cons (by repeat (first | exact Ph | apply Pt)) (.cons (by repeat (first | exact Ph | apply Pt)) (.cons (by repeat (first | exact Ph | apply Pt)) (.cons (by repeat (first | exact Ph | apply Pt)) (.cons (by repeat (first | exact Ph | apply Pt)) (.nil _)))))))).weak ⟨rfl, rfl, rfl, rfl, rfl, fi rfl (by dsimp only; rw [hTk]), fi rfl (by dsimp only; rw [hTk]), fi rfl (by dsimp only; omega), trivial⟩ (by dsimp only; rw [hTk]; dsimp only; rw [Pool.wc_append, List.length_append])⟩)
                · skip
                  try simp only [decide_eq_true_eq, decide_eq_false_iff_not, Bool.not_eq_true', Bool.not_eq_false', Bool.and_eq_true, Bool.not_eq_true, Bool.not_eq_false] at hc144
                  have his2 := hc144
                  refine wp_skip ?_
                  refine then_n ?_
                  refine wp_exit ?_
                  refine then_x ?_
                  refine inb_hit ?_
                  refine then_n ?_
                  refine reg ?_
                  refine plain (y_move rfl rfl) rfl rfl rfl H143 ?_
                  clear H143; intro a153 H153
                  refine plain (y_add rfl rfl rfl (by first | exact w64 (by omega) (by omega) | rfl)) rfl rfl rfl H153 ?_
                  clear H153; intro a154 H154
                  refine plain (y_assign rfl rfl) rfl rfl rfl H154 ?_
                  clear H154; intro a155 H155
                  refine fin ?_
                  refine then_n ?_
                  first | (have hz := his1; refine ⟨(k + 1, (.slice Ao s.out.length co, (.slice ArP (s.gone.length + 1) crP, v1))), by dsimp only; omega, by dsimp only; omega, (H155.only (is := [It.row 38 76 (.slice Ao s.out.length co) s.out.length (Pool.wc s.out), It.row 38 76 (.slice ArP (s.gone.length + 1) crP) (s.gone.length + 1) (Pool.wc s.gone ++ Pool.Wait.cells (Pool.put ⟨size, s.p.L⟩ (Pool.waitOf (l.getD k Pool.Come.zero) k s.now)).2.1), It.row 38 76 v1 (Pool.put ⟨size, s.p.L⟩ (Pool.waitOf (l.getD k Pool.Come.zero) k s.now)).1.L.length (Pool.wc (Pool.put ⟨size, s.p.L⟩ (Pool.waitOf (l.getD k Pool.Come.zero) k s.now)).1.L), It.blk bp 63 [i64 size, v1], It.blk b24 23 [.slice (some ⟨b23, 0, none⟩) 64 64], It.blk b23 3 (s.nx.map i64)]) (.cons (by repeat (first | exact Ph | apply Pt)) (.cons (by repeat (first | exact Ph | apply Pt)) (.cons (by repeat (first | exact Ph | apply Pt)) (.cons (by repeat (first | exact Ph | apply Pt)) (.cons (by repeat (first | exact Ph | apply Pt)) (.cons (by repeat (first | exact Ph | apply Pt)) (.nil _)))))))).weak ⟨rfl, rfl, rfl, rfl, rfl, fi rfl (by dsimp only; rw [hPl]), fi rfl (by dsimp only; rw [hPl]; dsimp only; first | rw [if_pos (by assumption)] | rw [if_neg (by assumption)]), fi rfl (by dsimp only; omega), trivial⟩ (by dsimp only; rw [hPl]; dsimp only; rw [if_pos (by assumption), Pool.wc_append, Pool.wc_one, List.length_append]; rfl)⟩) | (have hz := his2; refine ⟨(k + 1, (.slice Ao s.out.length co, (.slice Ag s.gone.length cg, v1))), by dsimp only; omega, by dsimp only; omega, (H155.only (is := [It.row 38 76 (.slice Ao s.out.length co) s.out.length (Pool.wc s.out), It.row 38 76 (.slice Ag s.gone.length cg) s.gone.length (Pool.wc s.gone), It.row 38 76 v1 (Pool.put ⟨size, s.p.L⟩ (Pool.waitOf (l.getD k Pool.Come.zero) k s.now)).1.L.length (Pool.wc (Pool.put ⟨size, s.p.L⟩ (Pool.waitOf (l.getD k Pool.Come.zero) k s.now)).1.L), It.blk bp 63 [i64 size, v1], It.blk b24 23 [.slice (some ⟨b23, 0, none⟩) 64 64], It.blk b23 3 (s.nx.map i64)]) (.cons (by repeat (first | exact Ph | apply Pt)) (.cons (by repeat (first | exact Ph | apply Pt)) (.cons (by repeat (first | exact Ph | apply Pt)) (.cons (by repeat (first | exact Ph | apply Pt)) (.cons (by repeat (first | exact Ph | apply Pt)) (.cons (by repeat (first | exact Ph | apply Pt)) (.nil _)))))))).weak ⟨rfl, rfl, rfl, rfl, rfl, fi rfl (by dsimp only; rw [hPl]), fi rfl (by dsimp only; rw [hPl]; dsimp only; first | rw [if_pos (by assumption)] | rw [if_neg (by assumption)]), fi rfl (by dsimp only; omega), trivial⟩ (by dsimp only; rw [hPl]; dsimp only; rw [if_neg (by first | assumption | (rw [his2]; exact Bool.false_ne_true))])⟩) | (refine ⟨(k + 1, (.slice Ao1 d.out.length co1, (.slice ArR (s.gone.length + (d.p.L.filter (Pool.isOld (s.now + 1))).length) crR, v2))), by dsimp only; omega, by dsimp only; omega, (H155.only (is := [It.row 38 76 (.slice Ao1 d.out.length co1) d.out.length (Pool.wc d.out), It.row 38 76 (.slice ArR (s.gone.length + (d.p.L.filter (Pool.isOld (s.now + 1))).length) crR) (s.gone.length + (d.p.L.filter (Pool.isOld (s.now + 1))).length) (Pool.wc s.gone ++ Pool.wc (d.p.L.filter (Pool.isOld (s.now + 1)))), It.row 38 76 v2 (d.p.L.filter fun w => !Pool.isOld (s.now + 1) w).length (Pool.wc (d.p.L.filter fun w => !Pool.isOld (s.now + 1) w)), It.blk bp 63 [i64 size, v2], It.blk b24 23 [.slice (some ⟨b23, 0, none⟩) 64 64], It.blk b23 3 (d.nx.map i64)]) (.cons (by repeat (first | exact Ph | apply Pt)) (.cons (by repeat (first | exact Ph | apply Pt)) (.cons (by repeat (first | exact Ph | apply Pt)) (.cons (by repeat (first | exact Ph | apply Pt)) (.cons (by repeat (first | exact Ph | apply Pt)) (.cons (by repeat (first | exact Ph | apply Pt)) (.nil _)))))))).weak ⟨rfl, rfl, rfl, rfl, rfl, fi rfl (by dsimp only; rw [hTk]), fi rfl (by dsimp only; rw [hTk]), fi rfl (by dsimp only; omega), trivial⟩ (by dsimp only; rw [hTk]; dsimp only; rw [Pool.wc_append, List.length_append])⟩)
          · skip
            try simp only [decide_eq_true_eq, decide_eq_false_iff_not, Bool.not_eq_true', Bool.not_eq_false', Bool.and_eq_true, Bool.not_eq_true, Bool.not_eq_false] at hc47
            have hti : (l.getD k Pool.Come.zero).tick = true := hc47
            refine wp_skip ?_
            refine then_n ?_
            refine wp_seq ?_
            refine wp_seq ?_
            refine reg ?_
            refine plain (y_assign rfl rfl) rfl rfl rfl H46 ?_
            clear H46; intro a156 H156
            refine fin ?_
            refine then_n ?_
            refine wp_cut (fun aC wC => ∃ vo1 v1 : Value, St Try.f20.ntmps [] w ([(1, .slice A l.length ca), (8, .pointer (some ⟨bp, 0, none⟩)), (12, .pointer (some ⟨b24, 0, none⟩)), (10, vo1), (11, .slice Ag s.gone.length cg), (13, .int .i64 s.now), (14, .int .i64 s.put), (15, .int .i64 (k : Int))]) ([It.row 38 76 vo1 (Pool.drain (l.length + 1) s).out.length (Pool.wc (Pool.drain (l.length + 1) s).out), It.row 38 76 (.slice Ag s.gone.length cg) s.gone.length (Pool.wc s.gone), It.row 38 76 v1 (Pool.drain (l.length + 1) s).p.L.length (Pool.wc (Pool.drain (l.length + 1) s).p.L), It.blk bp 63 [i64 size, v1], It.blk b24 23 [.slice (some ⟨b23, 0, none⟩) 64 64], It.blk b23 3 ((Pool.drain (l.length + 1) s).nx.map i64)]) aC wC) ?_ ?_
            · skip
              refine wp_block ?_
              refine loop (ι := Nat × (Value × Value)) (fun z => [(1, .slice A l.length ca), (8, .pointer (some ⟨bp, 0, none⟩)), (12, .pointer (some ⟨b24, 0, none⟩)), (10, z.2.1), (11, .slice Ag s.gone.length cg), (13, .int .i64 s.now), (14, .int .i64 s.put), (15, .int .i64 (k : Int)), (19, .int .i64 (z.1 : Int))]) (fun z => [It.row 38 76 z.2.1 (Pool.pops z.1 s).out.length (Pool.wc (Pool.pops z.1 s).out), It.row 38 76 (.slice Ag s.gone.length cg) s.gone.length (Pool.wc s.gone), It.row 38 76 z.2.2 (Pool.pops z.1 s).p.L.length (Pool.wc (Pool.pops z.1 s).p.L), It.blk bp 63 [i64 size, z.2.2], It.blk b24 23 [.slice (some ⟨b23, 0, none⟩) 64 64], It.blk b23 3 ((Pool.pops z.1 s).nx.map i64)]) (fun z => z.1 ≤ l.length + 1 ∧ ∀ q, q < z.1 → (Pool.pop (Pool.pops q s)).2 = true) (fun z => l.length + 1 - z.1) ((0, ((.slice Ao s.out.length co : Value), v))) ⟨Nat.zero_le _, fun q hq => absurd hq (by omega)⟩ (H156.weak ⟨rfl, rfl, rfl, rfl, rfl, rfl, rfl, rfl, rfl, trivial⟩ rfl) ?_
              clear H156; intro z a157 wx157 hok157 H157
              obtain ⟨j, vo, v⟩ := z
              dsimp only at hok157 H157
              obtain ⟨hj, hq⟩ := hok157
              have hjf := Pool.pops_few hY hq
              have hT := Pool.y_pops hY j
              have hkp := Pool.pops_keeps s j
              have hpo := Pool.pops_out hY hq
              generalize ht : Pool.pops j s = t at hT hkp hpo H157
              have htput := hT.put
              have htfew := hT.few
              have hlen : t.p.L.length ≤ 1000 := by omega
              rw [← hkp.1] at H157
              obtain ⟨Ao2, co2, rfl, hRAo2, hmAo2⟩ := row_shape (v := vo) H157.sep (by repeat (first | exact Mh | apply Mt))
              refine wp_seq ?_
              refine wp_seq ?_
              refine reg ?_
              refine plain (y_move rfl rfl) rfl rfl rfl H157 ?_
              clear H157; intro a158 H158
              refine plain (y_move rfl rfl) rfl rfl rfl H158 ?_
              clear H158; intro a159 H159
              refine plain (y_len rfl Try.underlying52 rfl) rfl rfl rfl H159 ?_
              clear H159; intro a160 H160
              refine plain (y_leq rfl rfl rfl) rfl rfl rfl H160 ?_
              clear H160; intro a161 H161
              refine fin ?_
              refine then_n ?_
              refine cnd H161 rfl (fun hc162 => ?_) (fun hc162 => ?_) -- cond 10
              · skip
                try simp only [decide_eq_true_eq, decide_eq_false_iff_not, Bool.not_eq_true', Bool.not_eq_false', Bool.and_eq_true, Bool.not_eq_true, Bool.not_eq_false] at hc162
                refine wp_skip ?_
                refine then_n ?_
                refine wp_seq ?_
                refine wp_block ?_
                refine wp_seq ?_
                have hpw := Pool.next_wf (size := size) hT.wl t.nx t.now
                have hxw := hpw.2
                have hq1 := hxw.tx.hand
                have hq2 := hxw.tx.tag
                refine reg ?_
                refine plain (y_move rfl rfl) rfl rfl rfl H161 ?_
                clear H161; intro a163 H163
                refine plain (y_move rfl rfl) rfl rfl rfl H163 ?_
                clear H163; intro a164 H164
                refine plain (y_fn rfl rfl rfl) rfl rfl rfl H164 ?_
                clear H164; intro a165 H165
                refine st_callk2 (is := [It.row 38 76 v t.p.L.length (Pool.wc t.p.L), It.blk bp 63 [i64 size, v]]) (enters_call rfl z_call15 rfl) rfl rfl rfl H165 (.cons (by repeat (first | exact Ph | apply Pt)) (.cons (by repeat (first | exact Ph | apply Pt)) (.nil _))) (fun hs => pnext t.p.L hT.wl size bp v hlen hT.good t.nx t.now 34 (.pointer (some ⟨b24, 0, none⟩)) hs (by kernel_rfl) (fun w' hF q hq => pplc t.nx hT.len b24 (some ⟨b23, 0, none⟩) 64 q hq (Sep.kept H165.sep (.cons (by repeat (first | exact Ph | apply Pt)) (.cons (by repeat (first | exact Ph | apply Pt)) (.nil _))) (by repeat (first | exact Mh | apply Mt)) hF) (rd_it (Sep.kept (j := It.blk b23 3 (t.nx.map i64)) H165.sep (.cons (by repeat (first | exact Ph | apply Pt)) (.cons (by repeat (first | exact Ph | apply Pt)) (.nil _))) (by repeat (first | exact Mh | apply Mt)) hF)))) ?_
                clear H165; intro v166 l166 a166 wx166 hf166 H166
                obtain ⟨rfl, v1, rfl⟩ := hf166
                simp only [List.cons_append, List.nil_append] at H166
                refine plain (y_move rfl rfl) rfl rfl rfl H166 ?_
                clear H166; intro a167 H167
                refine plain (y_extract rfl rfl rfl) rfl rfl rfl H167 ?_
                clear H167; intro a168 H168
                refine plain (y_extract rfl rfl rfl) rfl rfl rfl H168 ?_
                clear H168; intro a169 H169
                refine st_alloc rfl z_zeroN38 rfl rfl rfl H169 ?_
                clear H169; intro b170 a170 wx170 H170
                refine st_storeN rfl z_size38 rfl rfl (agg_cells _) (by repeat (first | exact Uh | apply Ut)) (q_one_c8b32b32c4 rfl rfl rfl rfl rfl rfl rfl rfl rfl rfl rfl rfl) (q_len_c8b32b32c4 (by assumption) (by assumption)) (q_len_c8b32b32c4 (by assumption) (by assumption)) (q_spl_c8b32b32c4_0_c8b32b32c4 (by assumption) (by assumption) (by assumption) (by assumption)) (by decide) rfl rfl H170 ?_
                clear H170; intro wx171 H171
                refine plain (y_assign rfl rfl) rfl rfl rfl H171 ?_
                clear H171; intro a172 H172
                refine fin ?_
                refine then_n ?_
                refine wp_seq ?_
                refine wp_seq ?_
                refine reg ?_
                refine plain (y_move rfl rfl) rfl rfl rfl H172 ?_
                clear H172; intro a173 H173
                refine plain ((by first | exact y_not_d rfl rfl | exact y_not rfl rfl)) rfl rfl rfl H173 ?_
                clear H173; intro a174 H174
                refine fin ?_
                refine then_n ?_
                refine cnd H174 rfl (fun hc175 => ?_) (fun hc175 => ?_) -- cond 11
                · skip
                  try simp only [decide_eq_true_eq, decide_eq_false_iff_not, Bool.not_eq_true', Bool.not_eq_false', Bool.and_eq_true, Bool.not_eq_true, Bool.not_eq_false] at hc175
                  have hst := hc175
                  refine wp_exit ?_
                  refine then_x ?_
                  refine inb_miss rfl ?_
                  refine then_x ?_
                  refine then_x ?_
                  refine inb_hit ?_
                  refine cut_n ?_
                  first | (have hz := hst; have hps := Pool.pop_not hT.p (by simpa using hst); rw [Pool.drain_stop hq hj (by rw [ht, hps]), ht]; rw [Pool.next_no_L (by simpa using hst)] at H174; exact ⟨.slice Ao2 t.out.length co2, v1, (H174.only (is := [It.row 38 76 (.slice Ao2 t.out.length co2) t.out.length (Pool.wc t.out), It.row 38 76 (.slice Ag s.gone.length cg) s.gone.length (Pool.wc s.gone), It.row 38 76 v1 t.p.L.length (Pool.wc t.p.L), It.blk bp 63 [i64 size, v1], It.blk b24 23 [.slice (some ⟨b23, 0, none⟩) 64 64], It.blk b23 3 (t.nx.map i64)]) (.cons (by repeat (first | exact Ph | apply Pt)) (.cons (by repeat (first | exact Ph | apply Pt)) (.cons (by repeat (first | exact Ph | apply Pt)) (.cons (by repeat (first | exact Ph | apply Pt)) (.cons (by repeat (first | exact Ph | apply Pt)) (.cons (by repeat (first | exact Ph | apply Pt)) (.nil _)))))))).weak ⟨rfl, rfl, rfl, rfl, rfl, fi rfl hkp.1, rfl, rfl, trivial⟩ rfl⟩) | (rw [show l.length + 1 = j by omega, Pool.drain_all hq, ht]; exact ⟨.slice Ao2 t.out.length co2, v, H174.weak ⟨rfl, rfl, rfl, rfl, rfl, fi rfl hkp.1, rfl, rfl, trivial⟩ rfl⟩)
                · skip
                  try simp only [decide_eq_true_eq, decide_eq_false_iff_not, Bool.not_eq_true', Bool.not_eq_false', Bool.and_eq_true, Bool.not_eq_true, Bool.not_eq_false] at hc175
                  have hgo := hc175
                  refine wp_skip ?_
                  refine then_n ?_
                  refine wp_seq ?_
                  have hns := Pool.next_src hT.good hgo
                  have hrs := Pool.right_src hns.1
                  have hnn := hns.2
                  unfold Pool.nextOf at hnn
                  have h64 := hT.len
                  refine reg ?_
                  refine plain (y_loadB rfl z_agg23 rfl (by repeat (first | exact Mh | apply Mt)) q_ix_c1_0) rfl rfl rfl H174 ?_
                  clear H174; intro a176 H176
                  refine plain (y_fieldB rfl z_field38_0 rfl (by first | (simp only [Nat.zero_add, Nat.add_zero, Nat.reduceAdd]; rfl) | rfl)) rfl rfl rfl H176 ?_
                  clear H176; intro a177 H177
                  refine plain (y_fieldB rfl z_field36_0 rfl (by first | (simp only [Nat.zero_add, Nat.add_zero, Nat.reduceAdd]; rfl) | rfl)) rfl rfl rfl H177 ?_
                  clear H177; intro a178 H178
                  refine plain (y_loadB rfl z_agg3 rfl (by repeat (first | exact Mh | apply Mt)) q_ix_c8b32b32c4_0) rfl rfl rfl H178 ?_
                  clear H178; intro a179 H179
                  refine plain (y_ixL rfl Try.underlying23 z_size3 rfl rfl (by omega) (by omega) rfl) rfl rfl rfl H179 ?_
                  clear H179; intro a180 H180
                  refine plain (y_loadB rfl z_agg3 rfl (by repeat (first | exact Mh | apply Mt)) (i64_getI t.nx _ (by omega) (by omega))) rfl rfl rfl H180 ?_
                  clear H180; intro a181 H181
                  refine plain (y_add rfl rfl rfl (by first | exact w64 (by omega) (by omega) | rfl)) rfl rfl rfl H181 ?_
                  clear H181; intro a182 H182
                  refine plain (y_ixL rfl Try.underlying23 z_size3 rfl rfl (by omega) (by omega) rfl) rfl rfl rfl H182 ?_
                  clear H182; intro a183 H183
                  refine st_store1 rfl z_size3 rfl rfl rfl (by repeat (first | exact Uh | apply Ut)) (by rw [List.length_map]; omega) rfl rfl H183 ?_
                  clear H183; intro wx184 H184
                  refine fin ?_
                  refine then_n ?_
                  rw [show (t.nx.map i64).set (0 + (Pool.next ⟨size, t.p.L⟩ t.nx t.now).2.1.tx.src.toNat * 1) (.int .i64 (t.nx.getD (Pool.next ⟨size, t.p.L⟩ t.nx t.now).2.1.tx.src.toNat 0 + 1)) = (Pool.bump t.nx (Pool.next ⟨size, t.p.L⟩ t.nx t.now).2.1).map i64 from i64_set _ _ _] at H184
                  refine reg ?_
                  refine plain (y_move rfl rfl) rfl rfl rfl H184 ?_
                  clear H184; intro a185 H185
                  refine plain (y_loadAB rfl z_agg38 z_size38 rfl (by repeat (first | exact Mh | apply Mt)) (q_ld_c8b32b32c4_0_76 (by assumption) (by assumption)) (q_len_c8b32b32c4 (by assumption) (by assumption))) rfl rfl rfl H185 ?_
                  clear H185; intro a186 H186
                  refine st_buildSlice rfl Try.underlying30 z_size38 z_zero38 rfl rfl rfl (lay_agg (agg_cells _) hxw.len rfl) rfl rfl rfl H186 ?_
                  clear H186; intro b187 a187 wx187 H187
                  refine st_append rfl z_slice30 z_notint30 rfl rfl (fun _ => (by repeat (first | exact Uh | apply Ut))) (fun w hs => Src.slice ((rd_blkA (by repeat (first | exact Mh | apply Mt))) w hs) hxw.len (Pool.wait_cell _)) (by unfold maxLen at *; omega) (by omega) rfl rfl rfl H187 ?_
                  clear H187; intro v188 a188 wx188 hnil188 H188
                  obtain ⟨ArQ, crQ, hvrQ, hRrQ, hmrQ⟩ := row_shape (v := v188) H188.sep (by repeat (first | exact Mh | apply Mt))
                  subst hvrQ
                  refine plain (y_assign rfl rfl) rfl rfl rfl H188 ?_
                  clear H188; intro a189 H189
                  refine fin ?_
                  refine inb_n ?_
                  refine then_n ?_
                  refine reg ?_
                  refine plain (y_move rfl rfl) rfl rfl rfl H189 ?_
                  clear H189; intro a190 H190
                  refine plain (y_add rfl rfl rfl (by first | exact w64 (by omega) (by omega) | rfl)) rfl rfl rfl H190 ?_
                  clear H190; intro a191 H191
                  refine plain (y_assign rfl rfl) rfl rfl rfl H191 ?_
                  clear H191; intro a192 H192
                  refine fin ?_
                  refine then_n ?_
                  have hpy := Pool.pop_yes hT.p hgo
                  have hpp : Pool.pops (j + 1) s = (Pool.pop t).1 := by rw [← ht]; rfl
                  rw [hpy] at hpp
                  refine ⟨(j + 1, (.slice ArQ (t.out.length + 1) crQ, v1)), by dsimp only; omega, ⟨by dsimp only; omega, fun q hq1 => ?_⟩, (H192.only (is := [It.row 38 76 (.slice ArQ (t.out.length + 1) crQ) (t.out.length + 1) (Pool.wc t.out ++ Pool.Wait.cells (Pool.next ⟨size, t.p.L⟩ t.nx t.now).2.1), It.row 38 76 (.slice Ag s.gone.length cg) s.gone.length (Pool.wc s.gone), It.row 38 76 v1 (Pool.next ⟨size, t.p.L⟩ t.nx t.now).1.L.length (Pool.wc (Pool.next ⟨size, t.p.L⟩ t.nx t.now).1.L), It.blk bp 63 [i64 size, v1], It.blk b24 23 [.slice (some ⟨b23, 0, none⟩) 64 64], It.blk b23 3 ((Pool.bump t.nx (Pool.next ⟨size, t.p.L⟩ t.nx t.now).2.1).map i64)]) (.cons (by repeat (first | exact Ph | apply Pt)) (.cons (by repeat (first | exact Ph | apply Pt)) (.cons (by repeat (first | exact Ph | apply Pt)) (.cons (by repeat (first | exact Ph | apply Pt)) (.cons (by repeat (first | exact Ph | apply Pt)) (.cons (by repeat (first | exact Ph | apply Pt)) (.nil _)))))))).weak ⟨rfl, rfl, rfl, rfl, rfl, fi rfl hkp.1, rfl, rfl, fi rfl (by dsimp only; omega), trivial⟩ (by dsimp only; rw [hpp]; dsimp only; rw [Pool.wc_append, Pool.wc_one, List.length_append]; rfl)⟩
                  by_cases e : q = j
                  · subst e; rw [ht, hpy]
                  · exact hq q (by omega)
              · skip
                try simp only [decide_eq_true_eq, decide_eq_false_iff_not, Bool.not_eq_true', Bool.not_eq_false', Bool.and_eq_true, Bool.not_eq_true, Bool.not_eq_false] at hc162
                refine wp_exit ?_
                refine then_x ?_
                refine then_x ?_
                refine inb_hit ?_
                refine cut_n ?_
                first | (have hz := hst; have hps := Pool.pop_not hT.p (by simpa using hst); rw [Pool.drain_stop hq hj (by rw [ht, hps]), ht]; rw [Pool.next_no_L (by simpa using hst)] at H161; exact ⟨.slice Ao2 t.out.length co2, v1, (H161.only (is := [It.row 38 76 (.slice Ao2 t.out.length co2) t.out.length (Pool.wc t.out), It.row 38 76 (.slice Ag s.gone.length cg) s.gone.length (Pool.wc s.gone), It.row 38 76 v1 t.p.L.length (Pool.wc t.p.L), It.blk bp 63 [i64 size, v1], It.blk b24 23 [.slice (some ⟨b23, 0, none⟩) 64 64], It.blk b23 3 (t.nx.map i64)]) (.cons (by repeat (first | exact Ph | apply Pt)) (.cons (by repeat (first | exact Ph | apply Pt)) (.cons (by repeat (first | exact Ph | apply Pt)) (.cons (by repeat (first | exact Ph | apply Pt)) (.cons (by repeat (first | exact Ph | apply Pt)) (.cons (by repeat (first | exact Ph | apply Pt)) (.nil _)))))))).weak ⟨rfl, rfl, rfl, rfl, rfl, fi rfl hkp.1, rfl, rfl, trivial⟩ rfl⟩) | (rw [show l.length + 1 = j by omega, Pool.drain_all hq, ht]; exact ⟨.slice Ao2 t.out.length co2, v, H161.weak ⟨rfl, rfl, rfl, rfl, rfl, fi rfl hkp.1, rfl, rfl, trivial⟩ rfl⟩)
            · clear H156; intro a193 wx193 hI193
              obtain ⟨vo1, v1, H193⟩ := hI193
              refine then_n ?_
              refine wp_seq ?_
              have hD := Pool.y_drain hY (l.length + 1)
              have hkd := Pool.drain_keeps s (l.length + 1)
              have hTk := Pool.play_tick (size := size) (l := l) (i := k) hti
              rw [hs] at hTk
              generalize hd : Pool.drain (l.length + 1) s = d at hD hkd hTk H193
              rw [Pool.tick_is hD.p, hkd.1, hkd.2.1, hkd.2.2] at hTk
              have hdput := hD.put
              have hdfew := hD.few
              have hlen1 : d.p.L.length ≤ 1000 := by omega
              rw [hkd.2.2] at hdput
              obtain ⟨Ao1, co1, rfl, hRAo1, hmAo1⟩ := row_shape (v := vo1) H193.sep (by repeat (first | exact Mh | apply Mt))
              refine reg ?_
              refine plain (y_move rfl rfl) rfl rfl rfl H193 ?_
              clear H193; intro a194 H194
              refine plain (y_add rfl rfl rfl (by first | exact w64 (by omega) (by omega) | rfl)) rfl rfl rfl H194 ?_
              clear H194; intro a195 H195
              refine plain (y_assign rfl rfl) rfl rfl rfl H195 ?_
              clear H195; intro a196 H196
              refine fin ?_
              refine then_n ?_
              have hfl := List.length_filter_le (Pool.isOld (s.now + 1)) d.p.L
              refine reg ?_
              refine plain (y_move rfl rfl) rfl rfl rfl H196 ?_
              clear H196; intro a197 H197
              refine plain (y_move rfl rfl) rfl rfl rfl H197 ?_
              clear H197; intro a198 H198
              refine plain (y_move rfl rfl) rfl rfl rfl H198 ?_
              clear H198; intro a199 H199
              refine st_callk2 (is := [It.row 38 76 v1 d.p.L.length (Pool.wc d.p.L), It.blk bp 63 [i64 size, v1]]) (enters_call rfl z_call13 rfl) rfl rfl rfl H199 (.cons (by repeat (first | exact Ph | apply Pt)) (.cons (by repeat (first | exact Ph | apply Pt)) (.nil _))) (fun hs => pold d.p.L hD.wl size bp v1 hlen1 (s.now + 1) hs) ?_
              clear H199; intro v200 l200 a200 wx200 hf200 H200
              obtain ⟨v2, rfl⟩ := hf200
              simp only [List.cons_append, List.nil_append] at H200
              obtain ⟨AO, cO, rfl, hRO, hmO⟩ := row_shape (v := v200) H200.sep (by repeat (first | exact Mh | apply Mt))
              refine st_append rfl z_slice30 z_notint30 rfl rfl (fun _ => (by repeat (first | exact Uh | apply Ut))) (fun w hs => Src.slice ((rd_row (by repeat (first | exact Mh | apply Mt))) w hs) (Pool.wc_len (hD.wl.filter _)) (Pool.wc_cell _)) (by unfold maxLen at *; omega) (by omega) rfl rfl rfl H200 ?_
              clear H200; intro v201 a201 wx201 hnil201 H201
              obtain ⟨ArR, crR, hvrR, hRrR, hmrR⟩ := row_shape (v := v201) H201.sep (by repeat (first | exact Mh | apply Mt))
              subst hvrR
              refine plain (y_assign rfl rfl) rfl rfl rfl H201 ?_
              clear H201; intro a202 H202
              refine fin ?_
              refine inb_n ?_
              refine then_n ?_
              refine reg ?_
              refine plain (y_move rfl rfl) rfl rfl rfl H202 ?_
              clear H202; intro a203 H203
              refine plain (y_add rfl rfl rfl (by first | exact w64 (by omega) (by omega) | rfl)) rfl rfl rfl H203 ?_
              clear H203; intro a204 H204
              refine plain (y_assign rfl rfl) rfl rfl rfl H204 ?_
              clear H204; intro a205 H205
              refine fin ?_
              refine then_n ?_
              first | (have hz := his1; refine ⟨(k + 1, (.slice Ao s.out.length co, (.slice ArP (s.gone.length + 1) crP, v1))), by dsimp only; omega, by dsimp only; omega, (H205.only (is := [It.row 38 76 (.slice Ao s.out.length co) s.out.length (Pool.wc s.out), It.row 38 76 (.slice ArP (s.gone.length + 1) crP) (s.gone.length + 1) (Pool.wc s.gone ++ Pool.Wait.cells (Pool.put ⟨size, s.p.L⟩ (Pool.waitOf (l.getD k Pool.Come.zero) k s.now)).2.1), It.row 38 76 v1 (Pool.put ⟨size, s.p.L⟩ (Pool.waitOf (l.getD k Pool.Come.zero) k s.now)).1.L.length (Pool.wc (Pool.put ⟨size, s.p.L⟩ (Pool.waitOf (l.getD k Pool.Come.zero) k s.now)).1.L), It.blk bp 63 [i64 size, v1], It.blk b24 23 [.slice (some ⟨b23, 0, none⟩) 64 64], It.blk b23 3 (s.nx.map i64)]) (.cons (by repeat (first | exact Ph | apply Pt)) (.cons (by repeat (first | exact Ph | apply Pt)) (.cons (by repeat (first | exact Ph | apply Pt)) (.cons (by repeat (first | exact Ph | apply Pt)) (.cons (by repeat (first | exact Ph | apply Pt)) (.cons (by repeat (first | exact Ph | apply Pt)) (.nil _)))))))).weak ⟨rfl, rfl, rfl, rfl, rfl, fi rfl (by dsimp only; rw [hPl]), fi rfl (by dsimp only; rw [hPl]; dsimp only; first | rw [if_pos (by assumption)] | rw [if_neg (by assumption)]), fi rfl (by dsimp only; omega), trivial⟩ (by dsimp only; rw [hPl]; dsimp only; rw [if_pos (by assumption), Pool.wc_append, Pool.wc_one, List.length_append]; rfl)⟩) | (have hz := his2; refine ⟨(k + 1, (.slice Ao s.out.length co, (.slice Ag s.gone.length cg, v1))), by dsimp only; omega, by dsimp only; omega, (H205.only (is := [It.row 38 76 (.slice Ao s.out.length co) s.out.length (Pool.wc s.out), It.row 38 76 (.slice Ag s.gone.length cg) s.gone.length (Pool.wc s.gone), It.row 38 76 v1 (Pool.put ⟨size, s.p.L⟩ (Pool.waitOf (l.getD k Pool.Come.zero) k s.now)).1.L.length (Pool.wc (Pool.put ⟨size, s.p.L⟩ (Pool.waitOf (l.getD k Pool.Come.zero) k s.now)).1.L), It.blk bp 63 [i64 size, v1], It.blk b24 23 [.slice (some ⟨b23, 0, none⟩) 64 64], It.blk b23 3 (s.nx.map i64)]) (.cons (by repeat (first | exact Ph | apply Pt)) (.cons (by repeat (first | exact Ph | apply Pt)) (.cons (by repeat (first | exact Ph | apply Pt)) (.cons (by repeat (first | exact Ph | apply Pt)) (.cons (by repeat (first | exact Ph | apply Pt)) (.cons (by repeat (first | exact Ph | apply Pt)) (.nil _)))))))).weak ⟨rfl, rfl, rfl, rfl, rfl, fi rfl (by dsimp only; rw [hPl]), fi rfl (by dsimp only; rw [hPl]; dsimp only; first | rw [if_pos (by assumption)] | rw [if_neg (by assumption)]), fi rfl (by dsimp only; omega), trivial⟩ (by dsimp only; rw [hPl]; dsimp only; rw [if_neg (by first | assumption | (rw [his2]; exact Bool.false_ne_true))])⟩) | (refine ⟨(k + 1, (.slice Ao1 d.out.length co1, (.slice ArR (s.gone.length + (d.p.L.filter (Pool.isOld (s.now + 1))).length) crR, v2))), by dsimp only; omega, by dsimp only; omega, (H205.only (is := [It.row 38 76 (.slice Ao1 d.out.length co1) d.out.length (Pool.wc d.out), It.row 38 76 (.slice ArR (s.gone.length + (d.p.L.filter (Pool.isOld (s.now + 1))).length) crR) (s.gone.length + (d.p.L.filter (Pool.isOld (s.now + 1))).length) (Pool.wc s.gone ++ Pool.wc (d.p.L.filter (Pool.isOld (s.now + 1)))), It.row 38 76 v2 (d.p.L.filter fun w => !Pool.isOld (s.now + 1) w).length (Pool.wc (d.p.L.filter fun w => !Pool.isOld (s.now + 1) w)), It.blk bp 63 [i64 size, v2], It.blk b24 23 [.slice (some ⟨b23, 0, none⟩) 64 64], It.blk b23 3 (d.nx.map i64)]) (.cons (by repeat (first | exact Ph | apply Pt)) (.cons (by repeat (first | exact Ph | apply Pt)) (.cons (by repeat (first | exact Ph | apply Pt)) (.cons (by repeat (first | exact Ph | apply Pt)) (.cons (by repeat (first | exact Ph | apply Pt)) (.cons (by repeat (first | exact Ph | apply Pt)) (.nil _)))))))).weak ⟨rfl, rfl, rfl, rfl, rfl, fi rfl (by dsimp only; rw [hTk]), fi rfl (by dsimp only; rw [hTk]), fi rfl (by dsimp only; omega), trivial⟩ (by dsimp only; rw [hTk]; dsimp only; rw [Pool.wc_append, List.length_append])⟩)
        · skip
          try simp only [decide_eq_true_eq, decide_eq_false_iff_not, Bool.not_eq_true', Bool.not_eq_false', Bool.and_eq_true, Bool.not_eq_true, Bool.not_eq_false] at hc40
          refine wp_exit ?_
          refine then_x ?_
          refine then_x ?_
          refine inb_hit ?_
          refine cut_n ?_
          have hmin : min l.length 120 = k := by omega
          rw [hmin, hs]
          exact ⟨.slice Ao s.out.length co, .slice Ag s.gone.length cg, v, (H39.drop (by repeat (first | exact S1 | exact S0 | apply S2 | apply S3))).weak ⟨rfl, rfl, rfl, rfl, trivial⟩ rfl⟩
    · first
      | fail
      | skip
        clear H34; intro H206
        try simp only [decide_eq_true_eq, decide_eq_false_iff_not, Bool.not_eq_true', Bool.not_eq_false', Bool.and_eq_true, Bool.not_eq_true, Bool.not_eq_false] at hg35
        refine skip rfl rfl rfl H206 ?_
        clear H206; intro a207 H207
        refine skip rfl rfl rfl H207 ?_
        clear H207; intro a208 H208
        refine plain (y_pick_f rfl rfl rfl) rfl rfl rfl H208 ?_
        clear H208; intro a209 H209
        refine fin ?_
        refine then_n ?_
        refine cnd_f H209 rfl ?_
        refine wp_exit ?_
        refine then_x ?_
        refine then_x ?_
        refine inb_hit ?_
        refine cut_n ?_
        have hmin : min l.length 120 = k := by omega
        rw [hmin, hs]
        exact ⟨.slice Ao s.out.length co, .slice Ag s.gone.length cg, v, (H209.drop (by repeat (first | exact S1 | exact S0 | apply S2 | apply S3))).weak ⟨rfl, rfl, rfl, rfl, trivial⟩ rfl⟩
  · clear H28; intro a211 wx211 hI211
    obtain ⟨vo, vg, v, H211⟩ := hI211
    refine then_n ?_
    refine wp_seq ?_
    refine reg ?_
    refine plain (y_move rfl rfl) rfl rfl rfl H211 ?_
    clear H211; intro a212 H212
    refine plain (y_move rfl rfl) rfl rfl rfl H212 ?_
    clear H212; intro a213 H213
    refine plain (y_move rfl rfl) rfl rfl rfl H213 ?_
    clear H213; intro a214 H214
    refine plain (y_move rfl rfl) rfl rfl rfl H214 ?_
    clear H214; intro a215 H215
    refine plain (y_assign rfl rfl) rfl rfl rfl H215 ?_
    clear H215; intro a216 H216
    refine plain (y_assign rfl rfl) rfl rfl rfl H216 ?_
    clear H216; intro a217 H217
    refine plain (y_assign rfl rfl) rfl rfl rfl H217 ?_
    clear H217; intro a218 H218
    refine plain (y_assign rfl rfl) rfl rfl rfl H218 ?_
    clear H218; intro a219 H219
    refine fin ?_
    refine then_n ?_
    refine wp_ret ?_
    -- return 1
    refine ret4 rfl H219 rfl rfl rfl rfl ?_
    first | (exfalso; omega) | (exact ⟨_, _, rfl, ⟨vo, vg, v, bp, rfl, rfl⟩, H219.sep⟩)

end Go.Proofs.Ytbdkgmkaakoigaa.P_Pl
