/- Part of a proof about given Go functions: contracts of functions, or plain laws. -/
import Derived.Test.YtbdkgmkaakoigaaS6
import Derived.Test.YtbdkgmkaakoigaaS4
import Derived.Test.YtbdkgmkaakoigaaS5
import Derived.Test.YtbdkgmkaakoigaaProg
import Derived.Test.YtbdkgmkaakoigaaW2
import Derived.Test.YtbdkgmkaakoigaaW3
import Derived.Test.YtbdkgmkaakoigaaS7
import Derived.Test.YtbdkgmkaakoigaaW4
import Derived.Test.YtbdkgmkaakoigaaW1
set_option linter.unusedVariables false
set_option linter.unusedSimpArgs false
namespace Go.Proofs.Ytbdkgmkaakoigaa.P_Nx
open Go.Sx Go.RowKit Go.Proofs.Ytbdkgmkaakoigaa.P_K Go.Proofs.Ytbdkgmkaakoigaa.P_Tk

theorem z_zeroN38 : zeroL Try.prog 38 = some ((.int .i64 0 :: (.int .i64 0 :: (.int .i64 0 :: (.int .i64 0 :: (.string ⟨#[]⟩ :: (.bool false :: (.int .i64 0 :: (.int .i64 0 :: ((List.replicate 32 (0 : UInt8)).map u8 ++ ((List.replicate 32 (0 : UInt8)).map u8 ++ (.int .i64 0 :: (.int .i64 0 :: (.int .i64 0 :: (.int .i64 0 :: []))))))))))))))) := by kernel_rfl
theorem z_field63_1 : fieldB Try.prog 63 1 = some 1 := by kernel_rfl
theorem z_agg30 : aggB Try.prog 30 = some false := by kernel_rfl
theorem q_ix_c2_1 {a0 a1 : Value} : (a0 :: a1 :: [])[1]? = some a1 := (ix_c (o := 0) ix_0)
theorem z_size38 : sizeB Try.prog 38 = some 76 := by kernel_rfl
theorem z_agg38 : aggB Try.prog 38 = some true := by kernel_rfl
theorem q_one_c8b32b32c4 {a0 a1 a2 a3 a4 a5 a6 a7 a10 a11 a12 a13 : Value} {t8 t9 : List UInt8} (o0 : a0.oneCell' = true) (o1 : a1.oneCell' = true) (o2 : a2.oneCell' = true) (o3 : a3.oneCell' = true) (o4 : a4.oneCell' = true) (o5 : a5.oneCell' = true) (o6 : a6.oneCell' = true) (o7 : a7.oneCell' = true) (o10 : a10.oneCell' = true) (o11 : a11.oneCell' = true) (o12 : a12.oneCell' = true) (o13 : a13.oneCell' = true) : (a0 :: a1 :: a2 :: a3 :: a4 :: a5 :: a6 :: a7 :: (t8.map u8 ++ ((t9.map u8 ++ (a10 :: a11 :: a12 :: a13 :: []))))).all (·.oneCell') = true := (one_c o0 (one_c o1 (one_c o2 (one_c o3 (one_c o4 (one_c o5 (one_c o6 (one_c o7 (one_b (one_b (one_c o10 (one_c o11 (one_c o12 (one_c o13 one_n))))))))))))))
theorem q_len_c8b32b32c4 {a0 a1 a2 a3 a4 a5 a6 a7 a10 a11 a12 a13 : Value} {t8 t9 : List UInt8} (h8 : t8.length = 32) (h9 : t9.length = 32) : (a0 :: a1 :: a2 :: a3 :: a4 :: a5 :: a6 :: a7 :: (t8.map u8 ++ ((t9.map u8 ++ (a10 :: a11 :: a12 :: a13 :: []))))).length = 76 := (len_c (n := 75) (len_c (n := 74) (len_c (n := 73) (len_c (n := 72) (len_c (n := 71) (len_c (n := 70) (len_c (n := 69) (len_c (n := 68) (len_b (k := 32) (n := 36) h8 (len_b (k := 32) (n := 4) h9 (len_c (n := 3) (len_c (n := 2) (len_c (n := 1) (len_c (n := 0) len_n))))))))))))))
theorem q_spl_c8b32b32c4_0_c8b32b32c4 {a0 a1 a2 a3 a4 a5 a6 a7 a10 a11 a12 a13 : Value} {t8 t9 : List UInt8} {b0 b1 b2 b3 b4 b5 b6 b7 b10 b11 b12 b13 : Value} {s8 s9 : List UInt8} (h8 : t8.length = 32) (h9 : t9.length = 32) (g8 : s8.length = 32) (g9 : s9.length = 32) : spl (a0 :: a1 :: a2 :: a3 :: a4 :: a5 :: a6 :: a7 :: (t8.map u8 ++ ((t9.map u8 ++ (a10 :: a11 :: a12 :: a13 :: []))))) 0 (b0 :: b1 :: b2 :: b3 :: b4 :: b5 :: b6 :: b7 :: (s8.map u8 ++ ((s9.map u8 ++ (b10 :: b11 :: b12 :: b13 :: []))))) = b0 :: b1 :: b2 :: b3 :: b4 :: b5 :: b6 :: b7 :: (s8.map u8 ++ ((s9.map u8 ++ (b10 :: b11 :: b12 :: b13 :: [])))) := (spl_a (z := 76) (len_c (n := 75) (len_c (n := 74) (len_c (n := 73) (len_c (n := 72) (len_c (n := 71) (len_c (n := 70) (len_c (n := 69) (len_c (n := 68) (len_b (k := 32) (n := 36) h8 (len_b (k := 32) (n := 4) h9 (len_c (n := 3) (len_c (n := 2) (len_c (n := 1) (len_c (n := 0) len_n)))))))))))))) (len_c (n := 75) (len_c (n := 74) (len_c (n := 73) (len_c (n := 72) (len_c (n := 71) (len_c (n := 70) (len_c (n := 69) (len_c (n := 68) (len_b (k := 32) (n := 36) g8 (len_b (k := 32) (n := 4) g9 (len_c (n := 3) (len_c (n := 2) (len_c (n := 1) (len_c (n := 0) len_n)))))))))))))))
theorem z_field38_3 : fieldB Try.prog 38 3 = some 74 := by kernel_rfl
theorem z_agg3 : aggB Try.prog 3 = some false := by kernel_rfl
theorem q_ix_c8b32b32c4_74 {a0 a1 a2 a3 a4 a5 a6 a7 a10 a11 a12 a13 : Value} {t8 t9 : List UInt8} (h8 : t8.length = 32) (h9 : t9.length = 32) : (a0 :: a1 :: a2 :: a3 :: a4 :: a5 :: a6 :: a7 :: (t8.map u8 ++ ((t9.map u8 ++ (a10 :: a11 :: a12 :: a13 :: [])))))[74]? = some a12 := (ix_c (o := 73) (ix_c (o := 72) (ix_c (o := 71) (ix_c (o := 70) (ix_c (o := 69) (ix_c (o := 68) (ix_c (o := 67) (ix_c (o := 66) (ix_b (k := 32) (o := 34) h8 rfl (ix_b (k := 32) (o := 2) h9 rfl (ix_c (o := 1) (ix_c (o := 0) ix_0))))))))))))
theorem z_field38_0 : fieldB Try.prog 38 0 = some 0 := by kernel_rfl
theorem z_field36_1 : fieldB Try.prog 36 1 = some 1 := by kernel_rfl
theorem q_ix_c8b32b32c4_1 {a0 a1 a2 a3 a4 a5 a6 a7 a10 a11 a12 a13 : Value} {t8 t9 : List UInt8} : (a0 :: a1 :: a2 :: a3 :: a4 :: a5 :: a6 :: a7 :: (t8.map u8 ++ ((t9.map u8 ++ (a10 :: a11 :: a12 :: a13 :: [])))))[1]? = some a1 := (ix_c (o := 0) ix_0)
theorem z_field36_0 : fieldB Try.prog 36 0 = some 0 := by kernel_rfl
theorem q_ix_c8b32b32c4_0 {a0 a1 a2 a3 a4 a5 a6 a7 a10 a11 a12 a13 : Value} {t8 t9 : List UInt8} : (a0 :: a1 :: a2 :: a3 :: a4 :: a5 :: a6 :: a7 :: (t8.map u8 ++ ((t9.map u8 ++ (a10 :: a11 :: a12 :: a13 :: [])))))[0]? = some a0 := ix_0
theorem q_ld_c8b32b32c4_0_76 {a0 a1 a2 a3 a4 a5 a6 a7 a10 a11 a12 a13 : Value} {t8 t9 : List UInt8} (h8 : t8.length = 32) (h9 : t9.length = 32) : ((a0 :: a1 :: a2 :: a3 :: a4 :: a5 :: a6 :: a7 :: (t8.map u8 ++ ((t9.map u8 ++ (a10 :: a11 :: a12 :: a13 :: []))))).drop 0).take 76 = a0 :: a1 :: a2 :: a3 :: a4 :: a5 :: a6 :: a7 :: (t8.map u8 ++ ((t9.map u8 ++ (a10 :: a11 :: a12 :: a13 :: [])))) := (ld_a (len_c (n := 75) (len_c (n := 74) (len_c (n := 73) (len_c (n := 72) (len_c (n := 71) (len_c (n := 70) (len_c (n := 69) (len_c (n := 68) (len_b (k := 32) (n := 36) h8 (len_b (k := 32) (n := 4) h9 (len_c (n := 3) (len_c (n := 2) (len_c (n := 1) (len_c (n := 0) len_n)))))))))))))))
theorem z_call33 : callB Try.prog 33 = true := by kernel_rfl
theorem z_call32 : callB Try.prog 32 = true := by kernel_rfl
theorem z_places38 : placesB Try.prog 38 = some [(0, 72), (72, 1), (73, 1), (74, 1), (75, 1)] := by kernel_rfl
theorem z_call28 : callB Try.prog 28 = true := by kernel_rfl
theorem z_field38_4 : fieldB Try.prog 38 4 = some 75 := by kernel_rfl
theorem q_ix_c8b32b32c4_75 {a0 a1 a2 a3 a4 a5 a6 a7 a10 a11 a12 a13 : Value} {t8 t9 : List UInt8} (h8 : t8.length = 32) (h9 : t9.length = 32) : (a0 :: a1 :: a2 :: a3 :: a4 :: a5 :: a6 :: a7 :: (t8.map u8 ++ ((t9.map u8 ++ (a10 :: a11 :: a12 :: a13 :: [])))))[75]? = some a13 := (ix_c (o := 74) (ix_c (o := 73) (ix_c (o := 72) (ix_c (o := 71) (ix_c (o := 70) (ix_c (o := 69) (ix_c (o := 68) (ix_c (o := 67) (ix_b (k := 32) (o := 35) h8 rfl (ix_b (k := 32) (o := 3) h9 rfl (ix_c (o := 2) (ix_c (o := 1) (ix_c (o := 0) ix_0)))))))))))))
theorem z_size3 : sizeB Try.prog 3 = some 1 := by kernel_rfl

set_option maxRecDepth 100000 in
set_option maxHeartbeats 8000000 in
theorem pnext (L : List Pool.Wait) (hL : Pool.Wfs L) (size : Int) (bp : Nat) (v : Value) (hlen : L.length ≤ 1000) (hg : Pool.Good ⟨size, L⟩) (nx : List Int) (now : Int) (fc : FuncId) (cp : Value) {w : World} (hs : Sep (fps [It.row 38 76 v L.length (Pool.wc L), It.blk bp 63 [i64 size, v]]) w w [It.row 38 76 v L.length (Pool.wc L), It.blk bp 63 [i64 size, v]]) (hcb : callB Try.prog fc = true) (hf : ∀ w' : World, Frm (fps [It.row 38 76 v L.length (Pool.wc L), It.blk bp 63 [i64 size, v]]) w w' → ∀ q : Int, 0 ≤ q ∧ q ≤ 63 → Calls Try.prog fc ([.int .i64 q, cp] : List Value).toArray w' (Gives (.int .i64 (nx.getD q.toNat 0)) [] w')) : Calls Try.prog 15 #[.pointer (some ⟨bp, 0, none⟩), .int .i64 now, .func (.func fc) ([] : List Value).toArray [cp].toArray] w (Post (fps [It.row 38 76 v L.length (Pool.wc L), It.blk bp 63 [i64 size, v]]) w fun u l' => u = .tuple #[.agg (Pool.Wait.cells (Pool.next ⟨size, L⟩ nx now).2.1).toArray, .bool (Pool.next ⟨size, L⟩ nx now).2.2] ∧ ∃ v', l' = [It.row 38 76 v' (Pool.next ⟨size, L⟩ nx now).1.L.length (Pool.wc (Pool.next ⟨size, L⟩ nx now).1.L), It.blk bp 63 [i64 size, v']]) := by
  obtain ⟨A, cc, rfl, hRx, hmx⟩ := row_shape (v := v) hs (by repeat (first | exact Mh | apply Mt))
  have hcap := row_cap (A := A) (c := cc) hs (by repeat (first | exact Mh | apply Mt))
  have lz32 : (List.replicate 32 (0 : UInt8)).length = 32 := List.length_replicate
  refine enterL (args := [.pointer (some ⟨bp, 0, none⟩), .int .i64 now, .func (.func fc) ([] : List Value).toArray [cp].toArray]) Try.func15 rfl rfl (l := [It.row 38 76 (.slice A L.length cc) L.length (Pool.wc L), It.blk bp 63 [i64 size, (.slice A L.length cc)]]) hs ?_
  intro a0 H0
  refine wp_seq ?_
  refine reg ?_
  refine st_alloc rfl z_zeroN38 rfl rfl rfl H0 ?_
  clear H0; intro b1 a1 wx1 H1
  refine plain (y_assign rfl rfl) rfl rfl rfl H1 ?_
  clear H1; intro a2 H2
  refine fin ?_
  refine then_n ?_
  refine wp_seq ?_
  refine wp_seq ?_
  refine reg ?_
  refine plain (y_move rfl rfl) rfl rfl rfl H2 ?_
  clear H2; intro a3 H3
  refine plain (y_peql rfl Try.underlying24 rfl rfl) rfl rfl rfl H3 ?_
  clear H3; intro a4 H4
  refine plain (y_move rfl rfl) rfl rfl rfl H4 ?_
  clear H4; intro a5 H5
  have H7 := H5.know (d := 16) (v := .bool false) rfl (rfl)
  clear H5
  refine plain (y_move rfl rfl) rfl rfl rfl H7 ?_
  clear H7; intro a8 H8
  refine plain ((by first | exact y_fyeql rfl Try.underlying47 rfl rfl | exact y_fneql rfl Try.underlying47 rfl rfl)) rfl rfl rfl H8 ?_
  clear H8; intro a9 H9
  refine plain (y_pick_f rfl rfl rfl) rfl rfl rfl H9 ?_
  clear H9; intro a10 H10
  refine fin ?_
  refine then_n ?_
  refine cnd_f H10 rfl ?_
  refine wp_skip ?_
  refine then_n ?_
  refine wp_seq ?_
  refine reg ?_
  refine plain (y_assign rfl rfl) rfl rfl rfl H10 ?_
  clear H10; intro a12 H12
  refine fin ?_
  refine then_n ?_
  refine wp_seq ?_
  refine wp_seq ?_
  refine reg ?_
  refine plain (y_move rfl rfl) rfl rfl rfl H12 ?_
  clear H12; intro a13 H13
  refine plain (y_nilCheck rfl rfl) rfl rfl rfl H13 ?_
  clear H13; intro a14 H14
  refine plain (y_fieldB rfl z_field63_1 rfl (by first | (simp only [Nat.zero_add, Nat.add_zero, Nat.reduceAdd]; rfl) | rfl)) rfl rfl rfl H14 ?_
  clear H14; intro a15 H15
  refine plain (y_loadB rfl z_agg30 rfl (by repeat (first | exact Mh | apply Mt)) q_ix_c2_1) rfl rfl rfl H15 ?_
  clear H15; intro a16 H16
  refine plain (y_len rfl Try.underlying30 rfl) rfl rfl rfl H16 ?_
  clear H16; intro a17 H17
  refine plain (y_move rfl rfl) rfl rfl rfl H17 ?_
  clear H17; intro a18 H18
  refine fin ?_
  refine then_n ?_
  refine wp_block ?_
  refine loop (ι := Nat) (fun k => [(0, .pointer (some ⟨bp, 0, none⟩)), (1, .int .i64 now), (2, .func (.func fc) ([] : List Value).toArray [cp].toArray), (6, .pointer (some ⟨b1, 0, none⟩)), (7, .bool false), (8, .int .i64 (Pool.pickI (Pool.pick L nx now k))), (24, (.slice A L.length cc)), (25, .int .i64 (L.length : Int)), (26, .int .i64 (k : Int))]) (fun k => [It.blk b1 38 (Pool.Wait.cells Pool.Wait.zero), It.row 38 76 (.slice A L.length cc) L.length (Pool.wc L), It.blk bp 63 [i64 size, (.slice A L.length cc)]]) (fun k => k ≤ L.length) (fun k => L.length - k) (0) (Nat.zero_le _) (H18.weak ⟨rfl, rfl, rfl, rfl, rfl, rfl, rfl, rfl, rfl, trivial⟩ rfl) ?_
  clear H18; intro k a19 wx19 hok19 H19
  have hok := hok19
  refine wp_seq ?_
  refine reg ?_
  refine plain (y_lss rfl rfl rfl) rfl rfl rfl H19 ?_
  clear H19; intro a20 H20
  refine fin ?_
  refine then_n ?_
  refine wp_seq ?_
  refine cnd H20 rfl (fun hc21 => ?_) (fun hc21 => ?_) -- cond 2
  · skip
    try simp only [decide_eq_true_eq, decide_eq_false_iff_not, Bool.not_eq_true', Bool.not_eq_false', Bool.and_eq_true, Bool.not_eq_true, Bool.not_eq_false] at hc21
    refine wp_skip ?_
    refine then_n ?_
    refine wp_seq ?_
    refine wp_block ?_
    refine wp_seq ?_
    have hkl : k < L.length := by omega
    have hwk := hL.at_ hkl
    have whd := hwk.tx.hand
    have wtg := hwk.tx.tag
    have hri : Pool.right (L.getD k Pool.Wait.zero) := hg.right _ (Pool.mem_getD (L := L) hkl)
    have hsrc := Pool.src_ok hri
    have hpi := Pool.pickI_in (L := L) (nx := nx) (now := now) k
    have hwp : ¬ (Pool.pickI (Pool.pick L nx now k)) < 0 → Pool.Wait.Wf (L.getD (Pool.pickI (Pool.pick L nx now k)).toNat Pool.Wait.zero) ∧ Pool.right (L.getD (Pool.pickI (Pool.pick L nx now k)).toNat Pool.Wait.zero) := fun hz => ⟨hL.at_ (by omega), hg.right _ (Pool.mem_getD (L := L) (by omega))⟩
    refine reg ?_
    refine plain (y_move rfl rfl) rfl rfl rfl H20 ?_
    clear H20; intro a22 H22
    refine plain (y_ixR rfl Try.underlying30 z_size38 rfl rfl (by omega) (by omega) (rd_row (by repeat (first | exact Mh | apply Mt))) (by first | (rw [Pool.wc_len hL]; omega) | (rw [Pool.wc_len (hE.rz hwj _), Pool.rz_len]; omega) | (rw [spl_len (by rw [Pool.wc_len (hE.rz hwj k), Pool.rz_len]; show _ + 1 ≤ _; omega), Pool.wc_len (hE.rz hwj k), Pool.rz_len]; omega))) rfl rfl rfl H22 ?_
    clear H22; intro a23 H23
    refine plain (y_loadAS rfl z_agg38 z_size38 rfl (rd_row (by repeat (first | exact Mh | apply Mt))) (show _ = Pool.Wait.cells (L.getD k Pool.Wait.zero) from Pool.wc_take hL k hkl) hwk.len (by decide)) rfl rfl rfl H23 ?_
    clear H23; intro a24 H24
    refine st_alloc rfl z_zeroN38 rfl rfl rfl H24 ?_
    clear H24; intro b25 a25 wx25 H25
    refine plain (y_assign rfl rfl) rfl rfl rfl H25 ?_
    clear H25; intro a26 H26
    refine st_storeN rfl z_size38 rfl rfl (agg_cells _) (by repeat (first | exact Uh | apply Ut)) (q_one_c8b32b32c4 rfl rfl rfl rfl rfl rfl rfl rfl rfl rfl rfl rfl) (q_len_c8b32b32c4 (by assumption) (by assumption)) (q_len_c8b32b32c4 (by assumption) (by assumption)) (q_spl_c8b32b32c4_0_c8b32b32c4 (by assumption) (by assumption) (by assumption) (by assumption)) (by decide) rfl rfl H26 ?_
    clear H26; intro wx27 H27
    refine fin ?_
    refine then_n ?_
    refine wp_seq ?_
    refine qreg (by kernel_rfl) (by kernel_rfl) H27 ?_
    have F28 := H27.fr
    clear H27
    refine qplain (y_fieldB rfl z_field38_3 rfl (by first | (simp only [Nat.zero_add, Nat.add_zero, Nat.reduceAdd]; rfl) | rfl)) rfl rfl rfl F28 ?_
    clear F28; intro a29 H29
    refine qplain (y_loadB rfl z_agg3 rfl (by repeat (first | exact Mh | apply Mt)) (q_ix_c8b32b32c4_74 (by assumption) (by assumption))) rfl rfl rfl H29 ?_
    clear H29; intro a30 H30
    refine qplain (y_move rfl rfl) rfl rfl rfl H30 ?_
    clear H30; intro a31 H31
    refine qplain (y_leq rfl rfl rfl) rfl rfl rfl H31 ?_
    clear H31; intro a32 H32
    refine qplain (y_move rfl rfl) rfl rfl rfl H32 ?_
    clear H32; intro a33 H33
    refine qpart (d := 35) H33 rfl (fun hg34 => ?_) (fun hg34 => ?_)
    · first
      | fail
      | skip
        clear H33; intro H35
        try simp only [decide_eq_true_eq, decide_eq_false_iff_not, Bool.not_eq_true', Bool.not_eq_false', Bool.and_eq_true, Bool.not_eq_true, Bool.not_eq_false] at hg34
        refine qplain (y_fieldB rfl z_field38_0 rfl (by first | (simp only [Nat.zero_add, Nat.add_zero, Nat.reduceAdd]; rfl) | rfl)) rfl rfl rfl H35 ?_
        clear H35; intro a36 H36
        refine qplain (y_fieldB rfl z_field36_1 rfl (by first | (simp only [Nat.zero_add, Nat.add_zero, Nat.reduceAdd]; rfl) | rfl)) rfl rfl rfl H36 ?_
        clear H36; intro a37 H37
        refine qplain (y_loadB rfl z_agg3 rfl (by repeat (first | exact Mh | apply Mt)) q_ix_c8b32b32c4_1) rfl rfl rfl H37 ?_
        clear H37; intro a38 H38
        refine qplain (y_move rfl rfl) rfl rfl rfl H38 ?_
        clear H38; intro a39 H39
        refine qplain (y_fieldB rfl z_field38_0 rfl (by first | (simp only [Nat.zero_add, Nat.add_zero, Nat.reduceAdd]; rfl) | rfl)) rfl rfl rfl H39 ?_
        clear H39; intro a40 H40
        refine qplain (y_fieldB rfl z_field36_0 rfl (by first | (simp only [Nat.zero_add, Nat.add_zero, Nat.reduceAdd]; rfl) | rfl)) rfl rfl rfl H40 ?_
        clear H40; intro a41 H41
        refine qplain (y_loadB rfl z_agg3 rfl (by repeat (first | exact Mh | apply Mt)) q_ix_c8b32b32c4_0) rfl rfl rfl H41 ?_
        clear H41; intro a42 H42
        refine qcallv (enters_callv (all := [.int .i64 (L.getD k Pool.Wait.zero).tx.src, cp]) rfl rfl hcb rfl rfl) rfl rfl rfl H42 (fun w hs => (hf _ hs.frm (L.getD k Pool.Wait.zero).tx.src hsrc)) ?_
        clear H42; intro a43 H43
        refine qplain (y_eql rfl rfl rfl) rfl rfl rfl H43 ?_
        clear H43; intro a44 H44
        refine qplain (y_pick_t rfl rfl rfl) rfl rfl rfl H44 ?_
        clear H44; intro a45 H45
        refine qplain (y_move rfl rfl) rfl rfl rfl H45 ?_
        clear H45; intro a46 H46
        refine qpart (d := 46) H46 rfl (fun hg47 => ?_) (fun hg47 => ?_)
        · first
          | fail
          | skip
            clear H46; intro H48
            try simp only [decide_eq_true_eq, decide_eq_false_iff_not, Bool.not_eq_true', Bool.not_eq_false', Bool.and_eq_true, Bool.not_eq_true, Bool.not_eq_false] at hg47
            refine qplain (y_move rfl rfl) rfl rfl rfl H48 ?_
            clear H48; intro a49 H49
            refine qplain (y_lss rfl rfl rfl) rfl rfl rfl H49 ?_
            clear H49; intro a50 H50
            refine qplain (y_move rfl rfl) rfl rfl rfl H50 ?_
            clear H50; intro a51 H51
            refine qpart (d := 49) H51 rfl (fun hg52 => ?_) (fun hg52 => ?_)
            · first
              | fail
              | skip
                clear H51; intro H53
                try simp only [decide_eq_true_eq, decide_eq_false_iff_not, Bool.not_eq_true', Bool.not_eq_false', Bool.and_eq_true, Bool.not_eq_true, Bool.not_eq_false] at hg52
                refine qskip rfl rfl rfl H53 ?_
                clear H53; intro a54 H54
                refine qskip rfl rfl rfl H54 ?_
                clear H54; intro a55 H55
                refine qskip rfl rfl rfl H55 ?_
                clear H55; intro a56 H56
                refine qskip rfl rfl rfl H56 ?_
                clear H56; intro a57 H57
                refine qskip rfl rfl rfl H57 ?_
                clear H57; intro a58 H58
                refine qskip rfl rfl rfl H58 ?_
                clear H58; intro a59 H59
                refine qskip rfl rfl rfl H59 ?_
                clear H59; intro a60 H60
                refine qskip rfl rfl rfl H60 ?_
                clear H60; intro a61 H61
                refine qskip rfl rfl rfl H61 ?_
                clear H61; intro a62 H62
                refine qskip rfl rfl rfl H62 ?_
                clear H62; intro a63 H63
                refine qskip rfl rfl rfl H63 ?_
                clear H63; intro a64 H64
                refine qplain (y_pick_t rfl rfl rfl) rfl rfl rfl H64 ?_
                clear H64; intro a65 H65
                refine qplain (y_pick_t rfl rfl rfl) rfl rfl rfl H65 ?_
                clear H65; intro a66 H66
                refine qfin H66 ?_
                clear H66; intro wx67 H67
                refine then_n ?_
                refine cnd_t H67 rfl ?_
                have isYes := True.intro
                refine reg ?_
                refine plain (y_move rfl rfl) rfl rfl rfl H67 ?_
                clear H67; intro a69 H69
                refine plain (y_assign rfl rfl) rfl rfl rfl H69 ?_
                clear H69; intro a70 H70
                refine fin ?_
                refine inb_n ?_
                refine then_n ?_
                refine reg ?_
                refine plain (y_add rfl rfl rfl (by first | exact w64 (by omega) (by omega) | rfl)) rfl rfl rfl H70 ?_
                clear H70; intro a71 H71
                refine plain (y_move rfl rfl) rfl rfl rfl H71 ?_
                clear H71; intro a72 H72
                refine fin ?_
                refine then_n ?_
                first | (have hz := isYes; refine ⟨k + 1, by omega, by omega, (H72.drop (List.Sublist.cons _ (List.Sublist.refl _))).weak ⟨rfl, rfl, rfl, rfl, rfl, fi rfl (by rw [Pool.pick_y ⟨by assumption, by assumption⟩ (by first | exact .inl (by assumption) | exact .inr (by assumption))]), rfl, rfl, fi rfl (by omega), trivial⟩ rfl⟩) | (refine ⟨k + 1, by omega, by omega, (H72.drop (List.Sublist.cons _ (List.Sublist.refl _))).weak ⟨rfl, rfl, rfl, rfl, rfl, fi rfl (by rw [Pool.pick_n (by rintro ⟨⟨a, b⟩, c⟩; first | contradiction | (rcases c with c | c <;> first | contradiction | omega))]), rfl, rfl, fi rfl (by omega), trivial⟩ rfl⟩)
            · first
              | fail
              | skip
                clear H51; intro H73
                try simp only [decide_eq_true_eq, decide_eq_false_iff_not, Bool.not_eq_true', Bool.not_eq_false', Bool.and_eq_true, Bool.not_eq_true, Bool.not_eq_false] at hg52
                refine qplain (y_loadAB rfl z_agg38 z_size38 rfl (by repeat (first | exact Mh | apply Mt)) (q_ld_c8b32b32c4_0_76 (by assumption) (by assumption)) (q_len_c8b32b32c4 (by assumption) (by assumption))) rfl rfl rfl H73 ?_
                clear H73; intro a74 H74
                refine qcallg rfl z_call33 rfl rfl rfl rfl H74 (fun w hs => (pkey _ (by first | assumption | exact (hwp (by assumption)).1) _)) ?_
                clear H74; intro a75 H75
                refine qplain (y_move rfl rfl) rfl rfl rfl H75 ?_
                clear H75; intro a76 H76
                refine qplain (y_nilCheck rfl rfl) rfl rfl rfl H76 ?_
                clear H76; intro a77 H77
                refine qplain (y_fieldB rfl z_field63_1 rfl (by first | (simp only [Nat.zero_add, Nat.add_zero, Nat.reduceAdd]; rfl) | rfl)) rfl rfl rfl H77 ?_
                clear H77; intro a78 H78
                refine qplain (y_loadB rfl z_agg30 rfl (by repeat (first | exact Mh | apply Mt)) q_ix_c2_1) rfl rfl rfl H78 ?_
                clear H78; intro a79 H79
                refine qplain (y_move rfl rfl) rfl rfl rfl H79 ?_
                clear H79; intro a80 H80
                refine qplain (y_ixR rfl Try.underlying30 z_size38 rfl rfl (by omega) (by omega) (rd_row (by repeat (first | exact Mh | apply Mt))) (by first | (rw [Pool.wc_len hL]; omega) | (rw [Pool.wc_len (hE.rz hwj _), Pool.rz_len]; omega) | (rw [spl_len (by rw [Pool.wc_len (hE.rz hwj k), Pool.rz_len]; show _ + 1 ≤ _; omega), Pool.wc_len (hE.rz hwj k), Pool.rz_len]; omega))) rfl rfl rfl H80 ?_
                clear H80; intro a81 H81
                refine qplain (y_loadAS rfl z_agg38 z_size38 rfl (rd_row (by repeat (first | exact Mh | apply Mt))) (show _ = Pool.Wait.cells (L.getD (Pool.pickI (Pool.pick L nx now k)).toNat Pool.Wait.zero) from Pool.wc_take hL _ (by omega)) (hwp (by assumption)).1.len (by decide)) rfl rfl rfl H81 ?_
                clear H81; intro a82 H82
                refine qcallg rfl z_call33 rfl rfl rfl rfl H82 (fun w hs => (pkey _ (by first | assumption | exact (hwp (by assumption)).1) _)) ?_
                clear H82; intro a83 H83
                refine qcallg rfl z_call32 rfl rfl rfl rfl H83 (fun w hs => (pbelow (L.getD k Pool.Wait.zero) (L.getD (Pool.pickI (Pool.pick L nx now k)).toNat Pool.Wait.zero) hri.2.2.2 (hwp (by assumption)).2.2.2.2 _)) ?_
                clear H83; intro a84 H84
                refine qplain (y_pick_f rfl rfl rfl) rfl rfl rfl H84 ?_
                clear H84; intro a85 H85
                refine qplain (y_pick_t rfl rfl rfl) rfl rfl rfl H85 ?_
                clear H85; intro a86 H86
                refine qfin H86 ?_
                clear H86; intro wx87 H87
                refine then_n ?_
                refine cnd H87 rfl (fun hc88 => ?_) (fun hc88 => ?_) -- cond 4
                · skip
                  try simp only [decide_eq_true_eq, decide_eq_false_iff_not, Bool.not_eq_true', Bool.not_eq_false', Bool.and_eq_true, Bool.not_eq_true, Bool.not_eq_false] at hc88
                  have isYes := True.intro
                  refine reg ?_
                  refine plain (y_move rfl rfl) rfl rfl rfl H87 ?_
                  clear H87; intro a89 H89
                  refine plain (y_assign rfl rfl) rfl rfl rfl H89 ?_
                  clear H89; intro a90 H90
                  refine fin ?_
                  refine inb_n ?_
                  refine then_n ?_
                  refine reg ?_
                  refine plain (y_add rfl rfl rfl (by first | exact w64 (by omega) (by omega) | rfl)) rfl rfl rfl H90 ?_
                  clear H90; intro a91 H91
                  refine plain (y_move rfl rfl) rfl rfl rfl H91 ?_
                  clear H91; intro a92 H92
                  refine fin ?_
                  refine then_n ?_
                  first | (have hz := isYes; refine ⟨k + 1, by omega, by omega, (H92.drop (List.Sublist.cons _ (List.Sublist.refl _))).weak ⟨rfl, rfl, rfl, rfl, rfl, fi rfl (by rw [Pool.pick_y ⟨by assumption, by assumption⟩ (by first | exact .inl (by assumption) | exact .inr (by assumption))]), rfl, rfl, fi rfl (by omega), trivial⟩ rfl⟩) | (refine ⟨k + 1, by omega, by omega, (H92.drop (List.Sublist.cons _ (List.Sublist.refl _))).weak ⟨rfl, rfl, rfl, rfl, rfl, fi rfl (by rw [Pool.pick_n (by rintro ⟨⟨a, b⟩, c⟩; first | contradiction | (rcases c with c | c <;> first | contradiction | omega))]), rfl, rfl, fi rfl (by omega), trivial⟩ rfl⟩)
                · skip
                  try simp only [decide_eq_true_eq, decide_eq_false_iff_not, Bool.not_eq_true', Bool.not_eq_false', Bool.and_eq_true, Bool.not_eq_true, Bool.not_eq_false] at hc88
                  refine wp_skip ?_
                  refine inb_n ?_
                  refine then_n ?_
                  refine reg ?_
                  refine plain (y_add rfl rfl rfl (by first | exact w64 (by omega) (by omega) | rfl)) rfl rfl rfl H87 ?_
                  clear H87; intro a93 H93
                  refine plain (y_move rfl rfl) rfl rfl rfl H93 ?_
                  clear H93; intro a94 H94
                  refine fin ?_
                  refine then_n ?_
                  first | (have hz := isYes; refine ⟨k + 1, by omega, by omega, (H94.drop (List.Sublist.cons _ (List.Sublist.refl _))).weak ⟨rfl, rfl, rfl, rfl, rfl, fi rfl (by rw [Pool.pick_y ⟨by assumption, by assumption⟩ (by first | exact .inl (by assumption) | exact .inr (by assumption))]), rfl, rfl, fi rfl (by omega), trivial⟩ rfl⟩) | (refine ⟨k + 1, by omega, by omega, (H94.drop (List.Sublist.cons _ (List.Sublist.refl _))).weak ⟨rfl, rfl, rfl, rfl, rfl, fi rfl (by rw [Pool.pick_n (by rintro ⟨⟨a, b⟩, c⟩; first | contradiction | (rcases c with c | c <;> first | contradiction | omega))]), rfl, rfl, fi rfl (by omega), trivial⟩ rfl⟩)
        · first
          | fail
          | skip
            clear H46; intro H95
            try simp only [decide_eq_true_eq, decide_eq_false_iff_not, Bool.not_eq_true', Bool.not_eq_false', Bool.and_eq_true, Bool.not_eq_true, Bool.not_eq_false] at hg47
            refine qskip rfl rfl rfl H95 ?_
            clear H95; intro a96 H96
            refine qskip rfl rfl rfl H96 ?_
            clear H96; intro a97 H97
            refine qskip rfl rfl rfl H97 ?_
            clear H97; intro a98 H98
            refine qskip rfl rfl rfl H98 ?_
            clear H98; intro a99 H99
            refine qskip rfl rfl rfl H99 ?_
            clear H99; intro a100 H100
            refine qskip rfl rfl rfl H100 ?_
            clear H100; intro a101 H101
            refine qskip rfl rfl rfl H101 ?_
            clear H101; intro a102 H102
            refine qskip rfl rfl rfl H102 ?_
            clear H102; intro a103 H103
            refine qskip rfl rfl rfl H103 ?_
            clear H103; intro a104 H104
            refine qskip rfl rfl rfl H104 ?_
            clear H104; intro a105 H105
            refine qskip rfl rfl rfl H105 ?_
            clear H105; intro a106 H106
            refine qskip rfl rfl rfl H106 ?_
            clear H106; intro a107 H107
            refine qskip rfl rfl rfl H107 ?_
            clear H107; intro a108 H108
            refine qskip rfl rfl rfl H108 ?_
            clear H108; intro a109 H109
            refine qskip rfl rfl rfl H109 ?_
            clear H109; intro a110 H110
            refine qplain (y_pick_f rfl rfl rfl) rfl rfl rfl H110 ?_
            clear H110; intro a111 H111
            refine qfin H111 ?_
            clear H111; intro wx112 H112
            refine then_n ?_
            refine cnd_f H112 rfl ?_
            refine wp_skip ?_
            refine inb_n ?_
            refine then_n ?_
            refine reg ?_
            refine plain (y_add rfl rfl rfl (by first | exact w64 (by omega) (by omega) | rfl)) rfl rfl rfl H112 ?_
            clear H112; intro a114 H114
            refine plain (y_move rfl rfl) rfl rfl rfl H114 ?_
            clear H114; intro a115 H115
            refine fin ?_
            refine then_n ?_
            first | (have hz := isYes; refine ⟨k + 1, by omega, by omega, (H115.drop (List.Sublist.cons _ (List.Sublist.refl _))).weak ⟨rfl, rfl, rfl, rfl, rfl, fi rfl (by rw [Pool.pick_y ⟨by assumption, by assumption⟩ (by first | exact .inl (by assumption) | exact .inr (by assumption))]), rfl, rfl, fi rfl (by omega), trivial⟩ rfl⟩) | (refine ⟨k + 1, by omega, by omega, (H115.drop (List.Sublist.cons _ (List.Sublist.refl _))).weak ⟨rfl, rfl, rfl, rfl, rfl, fi rfl (by rw [Pool.pick_n (by rintro ⟨⟨a, b⟩, c⟩; first | contradiction | (rcases c with c | c <;> first | contradiction | omega))]), rfl, rfl, fi rfl (by omega), trivial⟩ rfl⟩)
    · first
      | fail
      | skip
        clear H33; intro H116
        try simp only [decide_eq_true_eq, decide_eq_false_iff_not, Bool.not_eq_true', Bool.not_eq_false', Bool.and_eq_true, Bool.not_eq_true, Bool.not_eq_false] at hg34
        refine qskip rfl rfl rfl H116 ?_
        clear H116; intro a117 H117
        refine qskip rfl rfl rfl H117 ?_
        clear H117; intro a118 H118
        refine qskip rfl rfl rfl H118 ?_
        clear H118; intro a119 H119
        refine qskip rfl rfl rfl H119 ?_
        clear H119; intro a120 H120
        refine qskip rfl rfl rfl H120 ?_
        clear H120; intro a121 H121
        refine qskip rfl rfl rfl H121 ?_
        clear H121; intro a122 H122
        refine qskip rfl rfl rfl H122 ?_
        clear H122; intro a123 H123
        refine qskip rfl rfl rfl H123 ?_
        clear H123; intro a124 H124
        refine qskip rfl rfl rfl H124 ?_
        clear H124; intro a125 H125
        refine qplain (y_pick_f rfl rfl rfl) rfl rfl rfl H125 ?_
        clear H125; intro a126 H126
        refine qplain (y_move rfl rfl) rfl rfl rfl H126 ?_
        clear H126; intro a127 H127
        refine qskip rfl rfl rfl H127 ?_
        clear H127; intro a128 H128
        refine qskip rfl rfl rfl H128 ?_
        clear H128; intro a129 H129
        refine qskip rfl rfl rfl H129 ?_
        clear H129; intro a130 H130
        refine qskip rfl rfl rfl H130 ?_
        clear H130; intro a131 H131
        refine qskip rfl rfl rfl H131 ?_
        clear H131; intro a132 H132
        refine qskip rfl rfl rfl H132 ?_
        clear H132; intro a133 H133
        refine qskip rfl rfl rfl H133 ?_
        clear H133; intro a134 H134
        refine qskip rfl rfl rfl H134 ?_
        clear H134; intro a135 H135
        refine qskip rfl rfl rfl H135 ?_
        clear H135; intro a136 H136
        refine qskip rfl rfl rfl H136 ?_
        clear H136; intro a137 H137
        refine qskip rfl rfl rfl H137 ?_
        clear H137; intro a138 H138
        refine qskip rfl rfl rfl H138 ?_
        clear H138; intro a139 H139
        refine qskip rfl rfl rfl H139 ?_
        clear H139; intro a140 H140
        refine qskip rfl rfl rfl H140 ?_
        clear H140; intro a141 H141
        refine qskip rfl rfl rfl H141 ?_
        clear H141; intro a142 H142
        refine qplain (y_pick_f rfl rfl rfl) rfl rfl rfl H142 ?_
        clear H142; intro a143 H143
        refine qfin H143 ?_
        clear H143; intro wx144 H144
        refine then_n ?_
        refine cnd_f H144 rfl ?_
        refine wp_skip ?_
        refine inb_n ?_
        refine then_n ?_
        refine reg ?_
        refine plain (y_add rfl rfl rfl (by first | exact w64 (by omega) (by omega) | rfl)) rfl rfl rfl H144 ?_
        clear H144; intro a146 H146
        refine plain (y_move rfl rfl) rfl rfl rfl H146 ?_
        clear H146; intro a147 H147
        refine fin ?_
        refine then_n ?_
        first | (have hz := isYes; refine ⟨k + 1, by omega, by omega, (H147.drop (List.Sublist.cons _ (List.Sublist.refl _))).weak ⟨rfl, rfl, rfl, rfl, rfl, fi rfl (by rw [Pool.pick_y ⟨by assumption, by assumption⟩ (by first | exact .inl (by assumption) | exact .inr (by assumption))]), rfl, rfl, fi rfl (by omega), trivial⟩ rfl⟩) | (refine ⟨k + 1, by omega, by omega, (H147.drop (List.Sublist.cons _ (List.Sublist.refl _))).weak ⟨rfl, rfl, rfl, rfl, rfl, fi rfl (by rw [Pool.pick_n (by rintro ⟨⟨a, b⟩, c⟩; first | contradiction | (rcases c with c | c <;> first | contradiction | omega))]), rfl, rfl, fi rfl (by omega), trivial⟩ rfl⟩)
  · skip
    try simp only [decide_eq_true_eq, decide_eq_false_iff_not, Bool.not_eq_true', Bool.not_eq_false', Bool.and_eq_true, Bool.not_eq_true, Bool.not_eq_false] at hc21
    refine wp_exit ?_
    refine then_x ?_
    refine then_x ?_
    refine inb_hit ?_
    refine then_n ?_
    refine wp_seq ?_
    refine wp_seq ?_
    obtain rfl : k = L.length := by omega
    refine reg ?_
    refine plain (y_move rfl rfl) rfl rfl rfl H20 ?_
    clear H20; intro a148 H148
    refine plain (y_lss rfl rfl rfl) rfl rfl rfl H148 ?_
    clear H148; intro a149 H149
    refine fin ?_
    refine then_n ?_
    refine cnd H149 rfl (fun hc150 => ?_) (fun hc150 => ?_) -- cond 7
    · skip
      try simp only [decide_eq_true_eq, decide_eq_false_iff_not, Bool.not_eq_true', Bool.not_eq_false', Bool.and_eq_true, Bool.not_eq_true, Bool.not_eq_false] at hc150
      have hnone := Pool.pick_end hc150
      refine wp_seq ?_
      refine reg ?_
      refine plain (y_build rfl z_zeroN38 z_places38 rfl lay_n) rfl rfl rfl H149 ?_
      clear H149; intro a151 H151
      refine st_storeN rfl z_size38 rfl rfl (agg_cells _) (by repeat (first | exact Uh | apply Ut)) (q_one_c8b32b32c4 rfl rfl rfl rfl rfl rfl rfl rfl rfl rfl rfl rfl) (q_len_c8b32b32c4 (by assumption) (by assumption)) (q_len_c8b32b32c4 (by assumption) (by assumption)) (q_spl_c8b32b32c4_0_c8b32b32c4 (by assumption) (by assumption) (by assumption) (by assumption)) (by decide) rfl rfl H151 ?_
      clear H151; intro wx152 H152
      refine plain (y_assign rfl rfl) rfl rfl rfl H152 ?_
      clear H152; intro a153 H153
      refine fin ?_
      refine then_n ?_
      refine wp_ret ?_
      refine then_r ?_
      -- return 1
      refine retct rfl H153 rfl z_agg38 z_size38 (by repeat (first | exact Mh | apply Mt)) (q_len_c8b32b32c4 (by assumption) (by assumption)) rfl ?_
      first | (rw [Pool.next_no (p := ⟨size, L⟩) hnone]; exact ⟨_, _, rfl, ⟨rfl, (.slice A L.length cc), rfl⟩, H153.sep.sub (by repeat (first | exact S1 | exact S0 | apply S2 | apply S3))⟩) | (have hsx := H153.sep.sub (l' := [It.row 38 76 (.slice A2 (L.eraseIdx j).length c2) (L.eraseIdx j).length (Pool.wc ((L.eraseIdx j).map (Pool.raise (L.getD j Pool.Wait.zero)))), It.blk bp 63 [i64 size, (.slice A2 (L.eraseIdx j).length c2)]]) (by repeat (first | exact S1 | exact S0 | apply S2 | apply S3)); rw [Pool.next_yes (p := ⟨size, L⟩) hpk]; refine ⟨_, _, rfl, ⟨rfl, (.slice A2 (L.eraseIdx j).length c2), rfl⟩, ?_⟩; dsimp only; rw [List.length_map]; exact hsx)
    · skip
      try simp only [decide_eq_true_eq, decide_eq_false_iff_not, Bool.not_eq_true', Bool.not_eq_false', Bool.and_eq_true, Bool.not_eq_true, Bool.not_eq_false] at hc150
      obtain ⟨j, hpk, hpj, hjl⟩ := Pool.pick_is hc150
      rw [hpj] at H149
      have hwj := hL.at_ hjl
      have hwh := hwj.tx.hand
      have hwt := hwj.tx.tag
      have hrj : Pool.right (L.getD j Pool.Wait.zero) := hg.right _ (Pool.mem_getD (L := L) hjl)
      have hrn := (Txs.check_is.1 hrj.1).2.1.1.1
      unfold Txs.within at hrn
      have hE := hL.erase j
      have hEl := (Pool.erase_sub L j).length_le
      refine wp_skip ?_
      refine then_n ?_
      refine wp_seq ?_
      refine reg ?_
      refine plain (y_move rfl rfl) rfl rfl rfl H149 ?_
      clear H149; intro a154 H154
      refine plain (y_move rfl rfl) rfl rfl rfl H154 ?_
      clear H154; intro a155 H155
      refine st_callk2 (is := [It.row 38 76 (.slice A L.length cc) L.length (Pool.wc L), It.blk bp 63 [i64 size, (.slice A L.length cc)]]) (enters_call rfl z_call28 rfl) rfl rfl rfl H155 (.cons (by repeat (first | exact Ph | apply Pt)) (.cons (by repeat (first | exact Ph | apply Pt)) (.nil _))) (fun hs => ptake L hL size bp (.slice A L.length cc) j hjl (by omega) hs) ?_
      clear H155; intro v156 l156 a156 wx156 hf156 H156
      obtain ⟨rfl, v1, rfl⟩ := hf156
      simp only [List.cons_append, List.nil_append] at H156
      obtain ⟨A2, c2, rfl, hR2, hm2⟩ := row_shape (v := v1) H156.sep (by repeat (first | exact Mh | apply Mt))
      refine st_alloc rfl z_zeroN38 rfl rfl rfl H156 ?_
      clear H156; intro b157 a157 wx157 H157
      refine st_storeN rfl z_size38 rfl rfl (agg_cells _) (by repeat (first | exact Uh | apply Ut)) (q_one_c8b32b32c4 rfl rfl rfl rfl rfl rfl rfl rfl rfl rfl rfl rfl) (q_len_c8b32b32c4 (by assumption) (by assumption)) (q_len_c8b32b32c4 (by assumption) (by assumption)) (q_spl_c8b32b32c4_0_c8b32b32c4 (by assumption) (by assumption) (by assumption) (by assumption)) (by decide) rfl rfl H157 ?_
      clear H157; intro wx158 H158
      refine fin ?_
      refine then_n ?_
      refine wp_seq ?_
      refine wp_seq ?_
      refine reg ?_
      refine plain (y_move rfl rfl) rfl rfl rfl H158 ?_
      clear H158; intro a159 H159
      refine plain (y_nilCheck rfl rfl) rfl rfl rfl H159 ?_
      clear H159; intro a160 H160
      refine plain (y_fieldB rfl z_field63_1 rfl (by first | (simp only [Nat.zero_add, Nat.add_zero, Nat.reduceAdd]; rfl) | rfl)) rfl rfl rfl H160 ?_
      clear H160; intro a161 H161
      refine plain (y_loadB rfl z_agg30 rfl (by repeat (first | exact Mh | apply Mt)) q_ix_c2_1) rfl rfl rfl H161 ?_
      clear H161; intro a162 H162
      refine plain (y_len rfl Try.underlying30 rfl) rfl rfl rfl H162 ?_
      clear H162; intro a163 H163
      refine plain (y_move rfl rfl) rfl rfl rfl H163 ?_
      clear H163; intro a164 H164
      refine fin ?_
      refine then_n ?_
      refine wp_block ?_
      refine loop (ι := Nat) (fun k => [(0, .pointer (some ⟨bp, 0, none⟩)), (6, .pointer (some ⟨b1, 0, none⟩)), (7, .bool false), (11, .pointer (some ⟨b157, 0, none⟩)), (74, (.slice A2 (L.eraseIdx j).length c2)), (75, .int .i64 ((L.eraseIdx j).length : Int)), (76, .int .i64 (k : Int))]) (fun k => [It.blk b157 38 (Pool.Wait.cells (L.getD j Pool.Wait.zero)), It.row 38 76 (.slice A2 (L.eraseIdx j).length c2) (L.eraseIdx j).length (Pool.wc (Pool.rz (L.getD j Pool.Wait.zero) (L.eraseIdx j) k)), It.blk bp 63 [i64 size, (.slice A2 (L.eraseIdx j).length c2)], It.blk b1 38 (Pool.Wait.cells Pool.Wait.zero)]) (fun k => k ≤ (L.eraseIdx j).length) (fun k => (L.eraseIdx j).length - k) (0) (Nat.zero_le _) (H164.weak ⟨rfl, rfl, rfl, rfl, rfl, rfl, rfl, trivial⟩ (by rw [Pool.rz_0]; rfl)) ?_
      clear H164; intro k a165 wx165 hok165 H165
      have hok := hok165
      refine wp_seq ?_
      refine reg ?_
      refine plain (y_lss rfl rfl rfl) rfl rfl rfl H165 ?_
      clear H165; intro a166 H166
      refine fin ?_
      refine then_n ?_
      refine wp_seq ?_
      refine cnd H166 rfl (fun hc167 => ?_) (fun hc167 => ?_) -- cond 8
      · skip
        try simp only [decide_eq_true_eq, decide_eq_false_iff_not, Bool.not_eq_true', Bool.not_eq_false', Bool.and_eq_true, Bool.not_eq_true, Bool.not_eq_false] at hc167
        refine wp_skip ?_
        refine then_n ?_
        refine wp_seq ?_
        refine wp_block ?_
        refine wp_seq ?_
        have hkl : k < (L.eraseIdx j).length := by omega
        have hwk := hE.at_ hkl
        have whd := hwk.tx.hand
        have wtg := hwk.tx.tag
        have hre : Pool.right ((L.eraseIdx j).getD k Pool.Wait.zero) := hg.right _ ((Pool.erase_sub L j).subset (Pool.mem_getD hkl))
        refine reg ?_
        refine plain (y_move rfl rfl) rfl rfl rfl H166 ?_
        clear H166; intro a168 H168
        refine plain (y_ixR rfl Try.underlying30 z_size38 rfl rfl (by omega) (by omega) (rd_row (by repeat (first | exact Mh | apply Mt))) (by first | (rw [Pool.wc_len hL]; omega) | (rw [Pool.wc_len (hE.rz hwj _), Pool.rz_len]; omega) | (rw [spl_len (by rw [Pool.wc_len (hE.rz hwj k), Pool.rz_len]; show _ + 1 ≤ _; omega), Pool.wc_len (hE.rz hwj k), Pool.rz_len]; omega))) rfl rfl rfl H168 ?_
        clear H168; intro a169 H169
        refine plain (y_loadAS rfl z_agg38 z_size38 rfl (rd_row (by repeat (first | exact Mh | apply Mt))) (show _ = Pool.Wait.cells ((L.eraseIdx j).getD k Pool.Wait.zero) from ((Pool.wc_take (hE.rz hwj k) k (by rw [Pool.rz_len]; omega)).trans (by rw [Pool.rz_getD]))) hwk.len (by decide)) rfl rfl rfl H169 ?_
        clear H169; intro a170 H170
        refine st_alloc rfl z_zeroN38 rfl rfl rfl H170 ?_
        clear H170; intro b171 a171 wx171 H171
        refine plain (y_assign rfl rfl) rfl rfl rfl H171 ?_
        clear H171; intro a172 H172
        refine st_storeN rfl z_size38 rfl rfl (agg_cells _) (by repeat (first | exact Uh | apply Ut)) (q_one_c8b32b32c4 rfl rfl rfl rfl rfl rfl rfl rfl rfl rfl rfl rfl) (q_len_c8b32b32c4 (by assumption) (by assumption)) (q_len_c8b32b32c4 (by assumption) (by assumption)) (q_spl_c8b32b32c4_0_c8b32b32c4 (by assumption) (by assumption) (by assumption) (by assumption)) (by decide) rfl rfl H172 ?_
        clear H172; intro wx173 H173
        refine fin ?_
        refine then_n ?_
        refine wp_seq ?_
        refine qreg (by kernel_rfl) (by kernel_rfl) H173 ?_
        have F174 := H173.fr
        clear H173
        refine qplain (y_fieldB rfl z_field38_0 rfl (by first | (simp only [Nat.zero_add, Nat.add_zero, Nat.reduceAdd]; rfl) | rfl)) rfl rfl rfl F174 ?_
        clear F174; intro a175 H175
        refine qplain (y_fieldB rfl z_field36_0 rfl (by first | (simp only [Nat.zero_add, Nat.add_zero, Nat.reduceAdd]; rfl) | rfl)) rfl rfl rfl H175 ?_
        clear H175; intro a176 H176
        refine qplain (y_loadB rfl z_agg3 rfl (by repeat (first | exact Mh | apply Mt)) q_ix_c8b32b32c4_0) rfl rfl rfl H176 ?_
        clear H176; intro a177 H177
        refine qplain (y_fieldB rfl z_field38_0 rfl (by first | (simp only [Nat.zero_add, Nat.add_zero, Nat.reduceAdd]; rfl) | rfl)) rfl rfl rfl H177 ?_
        clear H177; intro a178 H178
        refine qplain (y_fieldB rfl z_field36_0 rfl (by first | (simp only [Nat.zero_add, Nat.add_zero, Nat.reduceAdd]; rfl) | rfl)) rfl rfl rfl H178 ?_
        clear H178; intro a179 H179
        refine qplain (y_loadB rfl z_agg3 rfl (by repeat (first | exact Mh | apply Mt)) q_ix_c8b32b32c4_0) rfl rfl rfl H179 ?_
        clear H179; intro a180 H180
        refine qplain (y_eql rfl rfl rfl) rfl rfl rfl H180 ?_
        clear H180; intro a181 H181
        refine qplain (y_move rfl rfl) rfl rfl rfl H181 ?_
        clear H181; intro a182 H182
        refine qpart (d := 88) H182 rfl (fun hg183 => ?_) (fun hg183 => ?_)
        · first
          | fail
          | skip
            clear H182; intro H184
            try simp only [decide_eq_true_eq, decide_eq_false_iff_not, Bool.not_eq_true', Bool.not_eq_false', Bool.and_eq_true, Bool.not_eq_true, Bool.not_eq_false] at hg183
            refine qplain (y_fieldB rfl z_field38_0 rfl (by first | (simp only [Nat.zero_add, Nat.add_zero, Nat.reduceAdd]; rfl) | rfl)) rfl rfl rfl H184 ?_
            clear H184; intro a185 H185
            refine qplain (y_fieldB rfl z_field36_1 rfl (by first | (simp only [Nat.zero_add, Nat.add_zero, Nat.reduceAdd]; rfl) | rfl)) rfl rfl rfl H185 ?_
            clear H185; intro a186 H186
            refine qplain (y_loadB rfl z_agg3 rfl (by repeat (first | exact Mh | apply Mt)) q_ix_c8b32b32c4_1) rfl rfl rfl H186 ?_
            clear H186; intro a187 H187
            refine qplain (y_fieldB rfl z_field38_0 rfl (by first | (simp only [Nat.zero_add, Nat.add_zero, Nat.reduceAdd]; rfl) | rfl)) rfl rfl rfl H187 ?_
            clear H187; intro a188 H188
            refine qplain (y_fieldB rfl z_field36_1 rfl (by first | (simp only [Nat.zero_add, Nat.add_zero, Nat.reduceAdd]; rfl) | rfl)) rfl rfl rfl H188 ?_
            clear H188; intro a189 H189
            refine qplain (y_loadB rfl z_agg3 rfl (by repeat (first | exact Mh | apply Mt)) q_ix_c8b32b32c4_1) rfl rfl rfl H189 ?_
            clear H189; intro a190 H190
            refine qplain (y_add rfl rfl rfl (by first | exact w64 (by omega) (by omega) | rfl)) rfl rfl rfl H190 ?_
            clear H190; intro a191 H191
            refine qplain (y_eql rfl rfl rfl) rfl rfl rfl H191 ?_
            clear H191; intro a192 H192
            refine qplain (y_pick_t rfl rfl rfl) rfl rfl rfl H192 ?_
            clear H192; intro a193 H193
            refine qplain (y_move rfl rfl) rfl rfl rfl H193 ?_
            clear H193; intro a194 H194
            refine qpart (d := 98) H194 rfl (fun hg195 => ?_) (fun hg195 => ?_)
            · first
              | fail
              | skip
                clear H194; intro H196
                try simp only [decide_eq_true_eq, decide_eq_false_iff_not, Bool.not_eq_true', Bool.not_eq_false', Bool.and_eq_true, Bool.not_eq_true, Bool.not_eq_false] at hg195
                refine qplain (y_loadAB rfl z_agg38 z_size38 rfl (by repeat (first | exact Mh | apply Mt)) (q_ld_c8b32b32c4_0_76 (by assumption) (by assumption)) (q_len_c8b32b32c4 (by assumption) (by assumption))) rfl rfl rfl H196 ?_
                clear H196; intro a197 H197
                refine qcallg rfl z_call33 rfl rfl rfl rfl H197 (fun w hs => (pkey _ (by first | assumption | exact (hwp (by assumption)).1) _)) ?_
                clear H197; intro a198 H198
                refine qplain (y_loadAB rfl z_agg38 z_size38 rfl (by repeat (first | exact Mh | apply Mt)) (q_ld_c8b32b32c4_0_76 (by assumption) (by assumption)) (q_len_c8b32b32c4 (by assumption) (by assumption))) rfl rfl rfl H198 ?_
                clear H198; intro a199 H199
                refine qcallg rfl z_call33 rfl rfl rfl rfl H199 (fun w hs => (pkey _ (by first | assumption | exact (hwp (by assumption)).1) _)) ?_
                clear H199; intro a200 H200
                refine qcallg rfl z_call32 rfl rfl rfl rfl H200 (fun w hs => (pbelow ((L.eraseIdx j).getD k Pool.Wait.zero) (L.getD j Pool.Wait.zero) hre.2.2.2 hrj.2.2.2 _)) ?_
                clear H200; intro a201 H201
                refine qplain (y_pick_t rfl rfl rfl) rfl rfl rfl H201 ?_
                clear H201; intro a202 H202
                refine qfin H202 ?_
                clear H202; intro wx203 H203
                refine then_n ?_
                refine cnd H203 rfl (fun hc204 => ?_) (fun hc204 => ?_) -- cond 9
                · skip
                  try simp only [decide_eq_true_eq, decide_eq_false_iff_not, Bool.not_eq_true', Bool.not_eq_false', Bool.and_eq_true, Bool.not_eq_true, Bool.not_eq_false] at hc204
                  have isYes := True.intro
                  refine hreg [It.blk b157 38 (Pool.Wait.cells (L.getD j Pool.Wait.zero)), It.blk bp 63 [i64 size, (.slice A2 (L.eraseIdx j).length c2)]] (fun _ h => (h.sub (by first | exact S0 | exact S1 | repeat (first | exact S1 | exact S0 | apply S2 | apply S3)))) (by kernel_rfl) H203 ?_
                  clear H203; intro wx205 H205
                  refine htake 0 rfl (by kernel_rfl) (y_move rfl rfl) rfl rfl rfl (fun _ h => (h.sub (by first | exact S0 | exact S1 | repeat (first | exact S1 | exact S0 | apply S2 | apply S3)))) H205 ?_
                  clear H205; intro a206 H206
                  refine htake 1 rfl (by kernel_rfl) (y_nilCheck rfl rfl) rfl rfl rfl (fun _ h => (h.sub (by first | exact S0 | exact S1 | repeat (first | exact S1 | exact S0 | apply S2 | apply S3)))) H206 ?_
                  clear H206; intro a207 H207
                  refine htake 2 rfl (by kernel_rfl) (y_fieldB rfl z_field63_1 rfl (by first | (simp only [Nat.zero_add, Nat.add_zero, Nat.reduceAdd]; rfl) | rfl)) rfl rfl rfl (fun _ h => (h.sub (by first | exact S0 | exact S1 | repeat (first | exact S1 | exact S0 | apply S2 | apply S3)))) H207 ?_
                  clear H207; intro a208 H208
                  refine htake 3 rfl (by kernel_rfl) (y_loadB rfl z_agg30 rfl (by repeat (first | exact Mh | apply Mt)) q_ix_c2_1) rfl rfl rfl (fun _ h => (h.sub (by first | exact S0 | exact S1 | repeat (first | exact S1 | exact S0 | apply S2 | apply S3)))) H208 ?_
                  clear H208; intro a209 H209
                  refine htake 4 rfl (by kernel_rfl) (y_move rfl rfl) rfl rfl rfl (fun _ h => (h.sub (by first | exact S0 | exact S1 | repeat (first | exact S1 | exact S0 | apply S2 | apply S3)))) H209 ?_
                  clear H209; intro a210 H210
                  refine htake 5 rfl (by kernel_rfl) (y_move rfl rfl) rfl rfl rfl (fun _ h => (h.sub (by first | exact S0 | exact S1 | repeat (first | exact S1 | exact S0 | apply S2 | apply S3)))) H210 ?_
                  clear H210; intro a211 H211
                  refine htake 6 rfl (by kernel_rfl) (y_nilCheck rfl rfl) rfl rfl rfl (fun _ h => (h.sub (by first | exact S0 | exact S1 | repeat (first | exact S1 | exact S0 | apply S2 | apply S3)))) H211 ?_
                  clear H211; intro a212 H212
                  refine htake 7 rfl (by kernel_rfl) (y_fieldB rfl z_field63_1 rfl (by first | (simp only [Nat.zero_add, Nat.add_zero, Nat.reduceAdd]; rfl) | rfl)) rfl rfl rfl (fun _ h => (h.sub (by first | exact S0 | exact S1 | repeat (first | exact S1 | exact S0 | apply S2 | apply S3)))) H212 ?_
                  clear H212; intro a213 H213
                  refine htake 8 rfl (by kernel_rfl) (y_loadB rfl z_agg30 rfl (by repeat (first | exact Mh | apply Mt)) q_ix_c2_1) rfl rfl rfl (fun _ h => (h.sub (by first | exact S0 | exact S1 | repeat (first | exact S1 | exact S0 | apply S2 | apply S3)))) H213 ?_
                  clear H213; intro a214 H214
                  refine htake 9 rfl (by kernel_rfl) (y_move rfl rfl) rfl rfl rfl (fun _ h => (h.sub (by first | exact S0 | exact S1 | repeat (first | exact S1 | exact S0 | apply S2 | apply S3)))) H214 ?_
                  clear H214; intro a215 H215
                  refine htake 10 rfl (by kernel_rfl) (y_fieldB rfl z_field38_3 rfl (by first | (simp only [Nat.zero_add, Nat.add_zero, Nat.reduceAdd]; rfl) | rfl)) rfl rfl rfl (fun _ h => (h.sub (by first | exact S0 | exact S1 | repeat (first | exact S1 | exact S0 | apply S2 | apply S3)))) H215 ?_
                  clear H215; intro a216 H216
                  refine htake 11 rfl (by kernel_rfl) (y_loadB rfl z_agg3 rfl (by repeat (first | exact Mh | apply Mt)) (q_ix_c8b32b32c4_74 (by assumption) (by assumption))) rfl rfl rfl (fun _ h => (h.sub (by first | exact S0 | exact S1 | repeat (first | exact S1 | exact S0 | apply S2 | apply S3)))) H216 ?_
                  clear H216; intro a217 H217
                  refine htake 12 rfl (by kernel_rfl) (y_fieldB rfl z_field38_4 rfl (by first | (simp only [Nat.zero_add, Nat.add_zero, Nat.reduceAdd]; rfl) | rfl)) rfl rfl rfl (fun _ h => (h.sub (by first | exact S0 | exact S1 | repeat (first | exact S1 | exact S0 | apply S2 | apply S3)))) H217 ?_
                  clear H217; intro a218 H218
                  refine htake 13 rfl (by kernel_rfl) (y_loadB rfl z_agg3 rfl (by repeat (first | exact Mh | apply Mt)) (q_ix_c8b32b32c4_75 (by assumption) (by assumption))) rfl rfl rfl (fun _ h => (h.sub (by first | exact S0 | exact S1 | repeat (first | exact S1 | exact S0 | apply S2 | apply S3)))) H218 ?_
                  clear H218; intro a219 H219
                  refine hgo 14 rfl (by kernel_rfl) ?_
                  refine plain (y_ixR rfl Try.underlying30 z_size38 rfl rfl (by omega) (by omega) (rd_row (by repeat (first | exact Mh | apply Mt))) (by first | (rw [Pool.wc_len hL]; omega) | (rw [Pool.wc_len (hE.rz hwj _), Pool.rz_len]; omega) | (rw [spl_len (by rw [Pool.wc_len (hE.rz hwj k), Pool.rz_len]; show _ + 1 ≤ _; omega), Pool.wc_len (hE.rz hwj k), Pool.rz_len]; omega))) rfl rfl rfl H219 ?_
                  clear H219; intro a220 H220
                  refine hfin (H220.sep.sub (by first | exact S0 | exact S1 | repeat (first | exact S1 | exact S0 | apply S2 | apply S3))) ?_
                  refine hgo 15 rfl (by kernel_rfl) ?_
                  refine plain (y_fieldS rfl z_field38_3 rfl (rd_row (by repeat (first | exact Mh | apply Mt))) (by first | (rw [Pool.wc_len hL]; omega) | (rw [Pool.wc_len (hE.rz hwj _), Pool.rz_len]; omega) | (rw [spl_len (by rw [Pool.wc_len (hE.rz hwj k), Pool.rz_len]; show _ + 1 ≤ _; omega), Pool.wc_len (hE.rz hwj k), Pool.rz_len]; omega))) rfl rfl rfl H220 ?_
                  clear H220; intro a221 H221
                  refine hfin (H221.sep.sub (by first | exact S0 | exact S1 | repeat (first | exact S1 | exact S0 | apply S2 | apply S3))) ?_
                  refine hgo 16 rfl (by kernel_rfl) ?_
                  refine st_storeRow rfl z_size3 rfl rfl rfl (Pool.one_int _) rfl (by decide) (by repeat (first | exact Uh | apply Ut)) (by rw [Pool.wc_len (hE.rz hwj k), Pool.rz_len]; omega) rfl rfl H221 ?_
                  clear H221; intro wx222 H222
                  refine hfin (H222.sep.sub (by first | exact S0 | exact S1 | repeat (first | exact S1 | exact S0 | apply S2 | apply S3))) ?_
                  refine hgo 17 rfl (by kernel_rfl) ?_
                  refine plain (y_ixR rfl Try.underlying30 z_size38 rfl rfl (by omega) (by omega) (rd_row (by repeat (first | exact Mh | apply Mt))) (by first | (rw [Pool.wc_len hL]; omega) | (rw [Pool.wc_len (hE.rz hwj _), Pool.rz_len]; omega) | (rw [spl_len (by rw [Pool.wc_len (hE.rz hwj k), Pool.rz_len]; show _ + 1 ≤ _; omega), Pool.wc_len (hE.rz hwj k), Pool.rz_len]; omega))) rfl rfl rfl H222 ?_
                  clear H222; intro a223 H223
                  refine hfin (H223.sep.sub (by first | exact S0 | exact S1 | repeat (first | exact S1 | exact S0 | apply S2 | apply S3))) ?_
                  refine hgo 18 rfl (by kernel_rfl) ?_
                  refine plain (y_fieldS rfl z_field38_4 rfl (rd_row (by repeat (first | exact Mh | apply Mt))) (by first | (rw [Pool.wc_len hL]; omega) | (rw [Pool.wc_len (hE.rz hwj _), Pool.rz_len]; omega) | (rw [spl_len (by rw [Pool.wc_len (hE.rz hwj k), Pool.rz_len]; show _ + 1 ≤ _; omega), Pool.wc_len (hE.rz hwj k), Pool.rz_len]; omega))) rfl rfl rfl H223 ?_
                  clear H223; intro a224 H224
                  refine hfin (H224.sep.sub (by first | exact S0 | exact S1 | repeat (first | exact S1 | exact S0 | apply S2 | apply S3))) ?_
                  refine hgo 19 rfl (by kernel_rfl) ?_
                  refine st_storeRow rfl z_size3 rfl rfl rfl (Pool.one_int _) rfl (by decide) (by repeat (first | exact Uh | apply Ut)) (by rw [spl_len (by rw [Pool.wc_len (hE.rz hwj k), Pool.rz_len]; show _ + 1 ≤ _; omega), Pool.wc_len (hE.rz hwj k), Pool.rz_len]; omega) rfl rfl H224 ?_
                  clear H224; intro wx225 H225
                  refine hfin (H225.sep.sub (by first | exact S0 | exact S1 | repeat (first | exact S1 | exact S0 | apply S2 | apply S3))) ?_
                  refine hdone (by kernel_rfl) ?_
                  refine inb_n ?_
                  refine then_n ?_
                  refine reg ?_
                  refine plain (y_add rfl rfl rfl (by first | exact w64 (by omega) (by omega) | rfl)) rfl rfl rfl H225 ?_
                  clear H225; intro a226 H226
                  refine plain (y_move rfl rfl) rfl rfl rfl H226 ?_
                  clear H226; intro a227 H227
                  refine fin ?_
                  refine then_n ?_
                  first | (have hz := isYes; refine ⟨k + 1, by omega, by omega, (H227.drop (List.Sublist.cons _ (List.Sublist.refl _))).weak ⟨rfl, rfl, rfl, rfl, rfl, rfl, fi rfl (by omega), trivial⟩ (by rw [← Pool.rz_yes hE hwj hkl (show Pool.follows _ _ from ⟨by assumption, by assumption, by assumption⟩)]; rfl)⟩) | (refine ⟨k + 1, by omega, by omega, (H227.drop (List.Sublist.cons _ (List.Sublist.refl _))).weak ⟨rfl, rfl, rfl, rfl, rfl, rfl, fi rfl (by omega), trivial⟩ (by rw [Pool.rz_no hkl (by rintro ⟨a, b, c⟩; first | contradiction | omega)])⟩)
                · skip
                  try simp only [decide_eq_true_eq, decide_eq_false_iff_not, Bool.not_eq_true', Bool.not_eq_false', Bool.and_eq_true, Bool.not_eq_true, Bool.not_eq_false] at hc204
                  refine wp_skip ?_
                  refine inb_n ?_
                  refine then_n ?_
                  refine reg ?_
                  refine plain (y_add rfl rfl rfl (by first | exact w64 (by omega) (by omega) | rfl)) rfl rfl rfl H203 ?_
                  clear H203; intro a228 H228
                  refine plain (y_move rfl rfl) rfl rfl rfl H228 ?_
                  clear H228; intro a229 H229
                  refine fin ?_
                  refine then_n ?_
                  first | (have hz := isYes; refine ⟨k + 1, by omega, by omega, (H229.drop (List.Sublist.cons _ (List.Sublist.refl _))).weak ⟨rfl, rfl, rfl, rfl, rfl, rfl, fi rfl (by omega), trivial⟩ (by rw [← Pool.rz_yes hE hwj hkl (show Pool.follows _ _ from ⟨by assumption, by assumption, by assumption⟩)]; rfl)⟩) | (refine ⟨k + 1, by omega, by omega, (H229.drop (List.Sublist.cons _ (List.Sublist.refl _))).weak ⟨rfl, rfl, rfl, rfl, rfl, rfl, fi rfl (by omega), trivial⟩ (by rw [Pool.rz_no hkl (by rintro ⟨a, b, c⟩; first | contradiction | omega)])⟩)
            · first
              | fail
              | skip
                clear H194; intro H230
                try simp only [decide_eq_true_eq, decide_eq_false_iff_not, Bool.not_eq_true', Bool.not_eq_false', Bool.and_eq_true, Bool.not_eq_true, Bool.not_eq_false] at hg195
                refine qskip rfl rfl rfl H230 ?_
                clear H230; intro a231 H231
                refine qskip rfl rfl rfl H231 ?_
                clear H231; intro a232 H232
                refine qskip rfl rfl rfl H232 ?_
                clear H232; intro a233 H233
                refine qskip rfl rfl rfl H233 ?_
                clear H233; intro a234 H234
                refine qskip rfl rfl rfl H234 ?_
                clear H234; intro a235 H235
                refine qplain (y_pick_f rfl rfl rfl) rfl rfl rfl H235 ?_
                clear H235; intro a236 H236
                refine qfin H236 ?_
                clear H236; intro wx237 H237
                refine then_n ?_
                refine cnd_f H237 rfl ?_
                refine wp_skip ?_
                refine inb_n ?_
                refine then_n ?_
                refine reg ?_
                refine plain (y_add rfl rfl rfl (by first | exact w64 (by omega) (by omega) | rfl)) rfl rfl rfl H237 ?_
                clear H237; intro a239 H239
                refine plain (y_move rfl rfl) rfl rfl rfl H239 ?_
                clear H239; intro a240 H240
                refine fin ?_
                refine then_n ?_
                first | (have hz := isYes; refine ⟨k + 1, by omega, by omega, (H240.drop (List.Sublist.cons _ (List.Sublist.refl _))).weak ⟨rfl, rfl, rfl, rfl, rfl, rfl, fi rfl (by omega), trivial⟩ (by rw [← Pool.rz_yes hE hwj hkl (show Pool.follows _ _ from ⟨by assumption, by assumption, by assumption⟩)]; rfl)⟩) | (refine ⟨k + 1, by omega, by omega, (H240.drop (List.Sublist.cons _ (List.Sublist.refl _))).weak ⟨rfl, rfl, rfl, rfl, rfl, rfl, fi rfl (by omega), trivial⟩ (by rw [Pool.rz_no hkl (by rintro ⟨a, b, c⟩; first | contradiction | omega)])⟩)
        · first
          | fail
          | skip
            clear H182; intro H241
            try simp only [decide_eq_true_eq, decide_eq_false_iff_not, Bool.not_eq_true', Bool.not_eq_false', Bool.and_eq_true, Bool.not_eq_true, Bool.not_eq_false] at hg183
            refine qskip rfl rfl rfl H241 ?_
            clear H241; intro a242 H242
            refine qskip rfl rfl rfl H242 ?_
            clear H242; intro a243 H243
            refine qskip rfl rfl rfl H243 ?_
            clear H243; intro a244 H244
            refine qskip rfl rfl rfl H244 ?_
            clear H244; intro a245 H245
            refine qskip rfl rfl rfl H245 ?_
            clear H245; intro a246 H246
            refine qskip rfl rfl rfl H246 ?_
            clear H246; intro a247 H247
            refine qskip rfl rfl rfl H247 ?_
            clear H247; intro a248 H248
            refine qskip rfl rfl rfl H248 ?_
            clear H248; intro a249 H249
            refine qplain (y_pick_f rfl rfl rfl) rfl rfl rfl H249 ?_
            clear H249; intro a250 H250
            refine qplain (y_move rfl rfl) rfl rfl rfl H250 ?_
            clear H250; intro a251 H251
            refine qskip rfl rfl rfl H251 ?_
            clear H251; intro a252 H252
            refine qskip rfl rfl rfl H252 ?_
            clear H252; intro a253 H253
            refine qskip rfl rfl rfl H253 ?_
            clear H253; intro a254 H254
            refine qskip rfl rfl rfl H254 ?_
            clear H254; intro a255 H255
            refine qskip rfl rfl rfl H255 ?_
            clear H255; intro a256 H256
            refine qplain (y_pick_f rfl rfl rfl) rfl rfl rfl H256 ?_
            clear H256; intro a257 H257
            refine qfin H257 ?_
            clear H257; intro wx258 H258
            refine then_n ?_
            refine cnd_f H258 rfl ?_
            refine wp_skip ?_
            refine inb_n ?_
            refine then_n ?_
            refine reg ?_
            refine plain (y_add rfl rfl rfl (by first | exact w64 (by omega) (by omega) | rfl)) rfl rfl rfl H258 ?_
            clear H258; intro a260 H260
            refine plain (y_move rfl rfl) rfl rfl rfl H260 ?_
            clear H260; intro a261 H261
            refine fin ?_
            refine then_n ?_
            first | (have hz := isYes; refine ⟨k + 1, by omega, by omega, (H261.drop (List.Sublist.cons _ (List.Sublist.refl _))).weak ⟨rfl, rfl, rfl, rfl, rfl, rfl, fi rfl (by omega), trivial⟩ (by rw [← Pool.rz_yes hE hwj hkl (show Pool.follows _ _ from ⟨by assumption, by assumption, by assumption⟩)]; rfl)⟩) | (refine ⟨k + 1, by omega, by omega, (H261.drop (List.Sublist.cons _ (List.Sublist.refl _))).weak ⟨rfl, rfl, rfl, rfl, rfl, rfl, fi rfl (by omega), trivial⟩ (by rw [Pool.rz_no hkl (by rintro ⟨a, b, c⟩; first | contradiction | omega)])⟩)
      · skip
        try simp only [decide_eq_true_eq, decide_eq_false_iff_not, Bool.not_eq_true', Bool.not_eq_false', Bool.and_eq_true, Bool.not_eq_true, Bool.not_eq_false] at hc167
        refine wp_exit ?_
        refine then_x ?_
        refine then_x ?_
        refine inb_hit ?_
        refine then_n ?_
        refine wp_seq ?_
        rw [Pool.rz_all (by omega)] at H166
        refine reg ?_
        refine plain (y_loadAB rfl z_agg38 z_size38 rfl (by repeat (first | exact Mh | apply Mt)) (q_ld_c8b32b32c4_0_76 (by assumption) (by assumption)) (q_len_c8b32b32c4 (by assumption) (by assumption))) rfl rfl rfl H166 ?_
        clear H166; intro a262 H262
        refine st_storeN rfl z_size38 rfl rfl (agg_cells _) (by repeat (first | exact Uh | apply Ut)) (q_one_c8b32b32c4 rfl rfl rfl rfl rfl rfl rfl rfl rfl rfl rfl rfl) (q_len_c8b32b32c4 (by assumption) (by assumption)) (q_len_c8b32b32c4 (by assumption) (by assumption)) (q_spl_c8b32b32c4_0_c8b32b32c4 (by assumption) (by assumption) (by assumption) (by assumption)) (by decide) rfl rfl H262 ?_
        clear H262; intro wx263 H263
        refine plain (y_assign rfl rfl) rfl rfl rfl H263 ?_
        clear H263; intro a264 H264
        refine fin ?_
        refine then_n ?_
        refine wp_ret ?_
        -- return 2
        refine retct rfl H264 rfl z_agg38 z_size38 (by repeat (first | exact Mh | apply Mt)) (q_len_c8b32b32c4 (by assumption) (by assumption)) rfl ?_
        first | (rw [Pool.next_no (p := ⟨size, L⟩) hnone]; exact ⟨_, _, rfl, ⟨rfl, (.slice A L.length cc), rfl⟩, H264.sep.sub (by repeat (first | exact S1 | exact S0 | apply S2 | apply S3))⟩) | (have hsx := H264.sep.sub (l' := [It.row 38 76 (.slice A2 (L.eraseIdx j).length c2) (L.eraseIdx j).length (Pool.wc ((L.eraseIdx j).map (Pool.raise (L.getD j Pool.Wait.zero)))), It.blk bp 63 [i64 size, (.slice A2 (L.eraseIdx j).length c2)]]) (by repeat (first | exact S1 | exact S0 | apply S2 | apply S3)); rw [Pool.next_yes (p := ⟨size, L⟩) hpk]; refine ⟨_, _, rfl, ⟨rfl, (.slice A2 (L.eraseIdx j).length c2), rfl⟩, ?_⟩; dsimp only; rw [List.length_map]; exact hsx)
end Go.Proofs.Ytbdkgmkaakoigaa.P_Nx

set_option linter.unusedVariables false
set_option linter.unusedSimpArgs false
namespace Go.Proofs.Ytbdkgmkaakoigaa.P_All
open Go.Sx Go.RowKit

theorem z_size38 : sizeB Try.prog 38 = some 76 := by kernel_rfl
theorem z_zero38 : zeroL Try.prog 38 = some ([.int .i64 0, .int .i64 0, .int .i64 0, .int .i64 0, .string ⟨#[]⟩, .bool false, .int .i64 0, .int .i64 0, .int .u8 0, .int .u8 0, .int .u8 0, .int .u8 0, .int .u8 0, .int .u8 0, .int .u8 0, .int .u8 0, .int .u8 0, .int .u8 0, .int .u8 0, .int .u8 0, .int .u8 0, .int .u8 0, .int .u8 0, .int .u8 0, .int .u8 0, .int .u8 0, .int .u8 0, .int .u8 0, .int .u8 0, .int .u8 0, .int .u8 0, .int .u8 0, .int .u8 0, .int .u8 0, .int .u8 0, .int .u8 0, .int .u8 0, .int .u8 0, .int .u8 0, .int .u8 0, .int .u8 0, .int .u8 0, .int .u8 0, .int .u8 0, .int .u8 0, .int .u8 0, .int .u8 0, .int .u8 0, .int .u8 0, .int .u8 0, .int .u8 0, .int .u8 0, .int .u8 0, .int .u8 0, .int .u8 0, .int .u8 0, .int .u8 0, .int .u8 0, .int .u8 0, .int .u8 0, .int .u8 0, .int .u8 0, .int .u8 0, .int .u8 0, .int .u8 0, .int .u8 0, .int .u8 0, .int .u8 0, .int .u8 0, .int .u8 0, .int .u8 0, .int .u8 0, .int .i64 0, .int .i64 0, .int .i64 0, .int .i64 0]) := by kernel_rfl
theorem z_field63_1 : fieldB Try.prog 63 1 = some 1 := by kernel_rfl
theorem z_agg30 : aggB Try.prog 30 = some false := by kernel_rfl
theorem z_slice30 : sliceB Try.prog 30 = some (38, 76, 168) := by kernel_rfl
theorem z_notint30 : notIntB Try.prog 30 = true := by kernel_rfl
theorem z_call18 : callB Try.prog 18 = true := by kernel_rfl

set_option maxRecDepth 100000 in
set_option maxHeartbeats 1000000 in
theorem pall (L : List Pool.Wait) (hL : Pool.Wfs L) (size : Int) (bp : Nat) (v : Value) (hlen : L.length ≤ 1000) {w : World} (hp : (It.blk bp 63 [i64 size, v]).P w) (hr : (It.row 38 76 v L.length (Pool.wc L)).P w) : Calls Try.prog 18 #[.pointer (some ⟨bp, 0, none⟩)] w (Post [] w fun u l' => l' = [It.row 38 76 u L.length (Pool.wc L)]) := by
  obtain ⟨A, cc, rfl, hR, hmx⟩ := Row.rd hr
  have lz32 : (List.replicate 32 (0 : UInt8)).length = 32 := List.length_replicate
  refine enterL (args := [.pointer (some ⟨bp, 0, none⟩)]) Try.func18 rfl rfl (l := []) (Sep.refl _) ?_
  intro a0 H0
  refine wp_seq ?_
  refine reg ?_
  refine plain (y_assign rfl rfl) rfl rfl rfl H0 ?_
  clear H0; intro a1 H1
  refine fin ?_
  refine then_n ?_
  refine wp_seq ?_
  refine wp_seq ?_
  refine reg ?_
  refine plain (y_move rfl rfl) rfl rfl rfl H1 ?_
  clear H1; intro a2 H2
  refine plain (y_peql rfl Try.underlying24 rfl rfl) rfl rfl rfl H2 ?_
  clear H2; intro a3 H3
  refine fin ?_
  refine then_n ?_
  refine cnd_f H3 rfl ?_
  refine wp_skip ?_
  refine then_n ?_
  refine wp_seq ?_
  refine reg ?_
  refine st_buildSlice rfl Try.underlying30 z_size38 z_zero38 rfl rfl rfl rfl rfl rfl rfl H3 ?_
  clear H3; intro b5 a5 wx5 H5
  refine plain (y_move rfl rfl) rfl rfl rfl H5 ?_
  clear H5; intro a6 H6
  refine plain (y_nilCheck rfl rfl) rfl rfl rfl H6 ?_
  clear H6; intro a7 H7
  refine plain (y_fieldB rfl z_field63_1 rfl (by first | (simp only [Nat.zero_add, Nat.add_zero, Nat.reduceAdd]; rfl) | rfl)) rfl rfl rfl H7 ?_
  clear H7; intro a8 H8
  refine plain (y_loadO rfl z_agg30 rfl (blk_cell hp (by rfl)) (by simp)) rfl rfl rfl H8 ?_
  clear H8; intro a9 H9
  replace H9 := H9.asRow (b := b5) (size := 76) (m := 0) (by repeat (first | exact Uh | apply Ut)) rfl (by unfold maxLen; omega)
  refine st_append rfl z_slice30 z_notint30 rfl rfl (fun _ => (by repeat (first | exact Uh | apply Ut))) (fun w hs => Src.slice ((rd_old hR (by simp)) w hs) (Pool.wc_len hL) (Pool.wc_cell _)) (by unfold maxLen at *; first | omega | (simp only [List.length_cons, List.length_nil, List.length_append, List.length_map]; omega)) (by omega) rfl rfl rfl H9 ?_
  clear H9; intro v10 a10 wx10 hnil10 H10
  obtain ⟨Ar10, cr10, hvr10, hRr10, hmr10⟩ := row_shape (v := v10) H10.sep (by repeat (first | exact Mh | apply Mt))
  subst hvr10
  refine plain (y_assign rfl rfl) rfl rfl rfl H10 ?_
  clear H10; intro a11 H11
  refine fin ?_
  refine then_n ?_
  refine wp_ret ?_
  -- return 1
  refine ret1 rfl H11 rfl ?_
  have hsx := H11.sep
  simp only [List.nil_append, Nat.zero_add] at hsx
  exact ⟨_, _, rfl, rfl, by simpa using hsx⟩
set_option maxRecDepth 100000 in
set_option maxHeartbeats 1000000 in
theorem plen (L : List Pool.Wait) (hL : Pool.Wfs L) (size : Int) (bp : Nat) (v : Value) (hlen : L.length ≤ 1000) {w : World} (hp : (It.blk bp 63 [i64 size, v]).P w) (hr : (It.row 38 76 v L.length (Pool.wc L)).P w) : Calls Try.prog 19 #[.pointer (some ⟨bp, 0, none⟩)] w (Gives (.int .i64 (L.length : Int)) [] w) := by
  have lz32 : (List.replicate 32 (0 : UInt8)).length = 32 := List.length_replicate
  refine enterL (args := [.pointer (some ⟨bp, 0, none⟩)]) Try.func19 rfl rfl (l := []) (Sep.refl _) ?_
  intro a0 H0
  refine wp_seq ?_
  refine reg ?_
  refine plain (y_assign rfl rfl) rfl rfl rfl H0 ?_
  clear H0; intro a1 H1
  refine fin ?_
  refine then_n ?_
  refine wp_seq ?_
  refine reg ?_
  refine plain (y_move rfl rfl) rfl rfl rfl H1 ?_
  clear H1; intro a2 H2
  refine st_call rfl z_call18 rfl rfl rfl rfl H2 (pall L hL size bp v hlen (H2.sep.keep hp) (H2.sep.keep hr)) ?_
  clear H2; intro v3 l3 a3 wx3 hf3 H3
  obtain rfl := hf3
  simp only [List.cons_append, List.nil_append] at H3
  obtain ⟨ArZ, crZ, hvrZ, hRrZ, hmrZ⟩ := row_shape (v := v3) H3.sep (by repeat (first | exact Mh | apply Mt))
  subst hvrZ
  refine plain (y_len rfl Try.underlying30 rfl) rfl rfl rfl H3 ?_
  clear H3; intro a4 H4
  refine plain (y_assign rfl rfl) rfl rfl rfl H4 ?_
  clear H4; intro a5 H5
  refine fin ?_
  refine then_n ?_
  refine wp_ret ?_
  -- return 1
  refine ret1 rfl H5 rfl ?_
  exact ⟨_, [], rfl, ⟨rfl, rfl⟩, H5.sep.sub (List.nil_sublist _)⟩
end Go.Proofs.Ytbdkgmkaakoigaa.P_All

set_option linter.unusedVariables false
set_option linter.unusedSimpArgs false
namespace Go.Proofs.Ytbdkgmkaakoigaa.P_Aw
open Go.Sx Go.RowKit Go.Proofs.Ytbdkgmkaakoigaa.P_New Go.Proofs.Ytbdkgmkaakoigaa.P_Put Go.Proofs.Ytbdkgmkaakoigaa.P_Nx Go.Proofs.Ytbdkgmkaakoigaa.P_All

theorem z_call8 : callB Try.prog 8 = true := by kernel_rfl
theorem z_zeroN36 : zeroL Try.prog 36 = some ((.int .i64 0 :: (.int .i64 0 :: (.int .i64 0 :: (.int .i64 0 :: (.string ⟨#[]⟩ :: (.bool false :: (.int .i64 0 :: (.int .i64 0 :: ((List.replicate 32 (0 : UInt8)).map u8 ++ (List.replicate 32 (0 : UInt8)).map u8)))))))))) := by kernel_rfl
theorem z_places36 : placesB Try.prog 36 = some [(0, 1), (1, 1), (2, 1), (3, 1), (4, 1), (5, 1), (6, 1), (7, 1), (8, 32), (40, 32)] := by kernel_rfl
theorem q_len_c8b32b32 {a0 a1 a2 a3 a4 a5 a6 a7 : Value} {t8 t9 : List UInt8} (h8 : t8.length = 32) (h9 : t9.length = 32) : (a0 :: a1 :: a2 :: a3 :: a4 :: a5 :: a6 :: a7 :: (t8.map u8 ++ (t9.map u8))).length = 72 := (len_c (n := 71) (len_c (n := 70) (len_c (n := 69) (len_c (n := 68) (len_c (n := 67) (len_c (n := 66) (len_c (n := 65) (len_c (n := 64) (len_b (k := 32) (n := 32) h8 (len_e (k := 32) h9))))))))))
theorem q_spl_c8b32b32_1_c1 {a0 a1 a2 a3 a4 a5 a6 a7 : Value} {t8 t9 : List UInt8} {b0 : Value} : spl (a0 :: a1 :: a2 :: a3 :: a4 :: a5 :: a6 :: a7 :: (t8.map u8 ++ (t9.map u8))) 1 (b0 :: []) = a0 :: b0 :: a2 :: a3 :: a4 :: a5 :: a6 :: a7 :: (t8.map u8 ++ (t9.map u8)) := (spl_c (o := 0) spl_0)
theorem z_zeroN38 : zeroL Try.prog 38 = some ((.int .i64 0 :: (.int .i64 0 :: (.int .i64 0 :: (.int .i64 0 :: (.string ⟨#[]⟩ :: (.bool false :: (.int .i64 0 :: (.int .i64 0 :: ((List.replicate 32 (0 : UInt8)).map u8 ++ ((List.replicate 32 (0 : UInt8)).map u8 ++ (.int .i64 0 :: (.int .i64 0 :: (.int .i64 0 :: (.int .i64 0 :: []))))))))))))))) := by kernel_rfl
theorem z_places38 : placesB Try.prog 38 = some [(0, 72), (72, 1), (73, 1), (74, 1), (75, 1)] := by kernel_rfl
theorem q_len_c8b32b32c4 {a0 a1 a2 a3 a4 a5 a6 a7 a10 a11 a12 a13 : Value} {t8 t9 : List UInt8} (h8 : t8.length = 32) (h9 : t9.length = 32) : (a0 :: a1 :: a2 :: a3 :: a4 :: a5 :: a6 :: a7 :: (t8.map u8 ++ ((t9.map u8 ++ (a10 :: a11 :: a12 :: a13 :: []))))).length = 76 := (len_c (n := 75) (len_c (n := 74) (len_c (n := 73) (len_c (n := 72) (len_c (n := 71) (len_c (n := 70) (len_c (n := 69) (len_c (n := 68) (len_b (k := 32) (n := 36) h8 (len_b (k := 32) (n := 4) h9 (len_c (n := 3) (len_c (n := 2) (len_c (n := 1) (len_c (n := 0) len_n))))))))))))))
theorem q_spl_c8b32b32c4_0_c8b32b32 {a0 a1 a2 a3 a4 a5 a6 a7 a10 a11 a12 a13 : Value} {t8 t9 : List UInt8} {b0 b1 b2 b3 b4 b5 b6 b7 : Value} {s8 s9 : List UInt8} (h8 : t8.length = 32) (h9 : t9.length = 32) (g8 : s8.length = 32) (g9 : s9.length = 32) : spl (a0 :: a1 :: a2 :: a3 :: a4 :: a5 :: a6 :: a7 :: (t8.map u8 ++ ((t9.map u8 ++ (a10 :: a11 :: a12 :: a13 :: []))))) 0 (b0 :: b1 :: b2 :: b3 :: b4 :: b5 :: b6 :: b7 :: (s8.map u8 ++ (s9.map u8))) = b0 :: b1 :: b2 :: b3 :: b4 :: b5 :: b6 :: b7 :: (s8.map u8 ++ ((s9.map u8 ++ (a10 :: a11 :: a12 :: a13 :: [])))) := (spl_m (z := 72) (len_c (n := 71) (len_c (n := 70) (len_c (n := 69) (len_c (n := 68) (len_c (n := 67) (len_c (n := 66) (len_c (n := 65) (len_c (n := 64) (len_b (k := 32) (n := 32) g8 (len_e (k := 32) g9)))))))))) (dr_c (o := 71) (dr_c (o := 70) (dr_c (o := 69) (dr_c (o := 68) (dr_c (o := 67) (dr_c (o := 66) (dr_c (o := 65) (dr_c (o := 64) (dr_b (k := 32) (o := 32) h8 rfl (dr_b (k := 32) (o := 0) h9 rfl dr_0)))))))))) (app_c (app_c (app_c (app_c (app_c (app_c (app_c (app_c (app_b app_e))))))))))
theorem q_spl_c8b32b32c4_74_c1 {a0 a1 a2 a3 a4 a5 a6 a7 a10 a11 a12 a13 : Value} {t8 t9 : List UInt8} {b0 : Value} (h8 : t8.length = 32) (h9 : t9.length = 32) : spl (a0 :: a1 :: a2 :: a3 :: a4 :: a5 :: a6 :: a7 :: (t8.map u8 ++ ((t9.map u8 ++ (a10 :: a11 :: a12 :: a13 :: []))))) 74 (b0 :: []) = a0 :: a1 :: a2 :: a3 :: a4 :: a5 :: a6 :: a7 :: (t8.map u8 ++ ((t9.map u8 ++ (a10 :: a11 :: b0 :: a13 :: [])))) := (spl_c (o := 73) (spl_c (o := 72) (spl_c (o := 71) (spl_c (o := 70) (spl_c (o := 69) (spl_c (o := 68) (spl_c (o := 67) (spl_c (o := 66) (spl_b (k := 32) (o := 34) h8 rfl (spl_b (k := 32) (o := 2) h9 rfl (spl_c (o := 1) (spl_c (o := 0) spl_0))))))))))))
theorem q_spl_c8b32b32c4_73_c1 {a0 a1 a2 a3 a4 a5 a6 a7 a10 a11 a12 a13 : Value} {t8 t9 : List UInt8} {b0 : Value} (h8 : t8.length = 32) (h9 : t9.length = 32) : spl (a0 :: a1 :: a2 :: a3 :: a4 :: a5 :: a6 :: a7 :: (t8.map u8 ++ ((t9.map u8 ++ (a10 :: a11 :: a12 :: a13 :: []))))) 73 (b0 :: []) = a0 :: a1 :: a2 :: a3 :: a4 :: a5 :: a6 :: a7 :: (t8.map u8 ++ ((t9.map u8 ++ (a10 :: b0 :: a12 :: a13 :: [])))) := (spl_c (o := 72) (spl_c (o := 71) (spl_c (o := 70) (spl_c (o := 69) (spl_c (o := 68) (spl_c (o := 67) (spl_c (o := 66) (spl_c (o := 65) (spl_b (k := 32) (o := 33) h8 rfl (spl_b (k := 32) (o := 1) h9 rfl (spl_c (o := 0) spl_0)))))))))))
theorem z_call10 : callB Try.prog 10 = true := by kernel_rfl
theorem q_spl_c8b32b32c4_72_c1 {a0 a1 a2 a3 a4 a5 a6 a7 a10 a11 a12 a13 : Value} {t8 t9 : List UInt8} {b0 : Value} (h8 : t8.length = 32) (h9 : t9.length = 32) : spl (a0 :: a1 :: a2 :: a3 :: a4 :: a5 :: a6 :: a7 :: (t8.map u8 ++ ((t9.map u8 ++ (a10 :: a11 :: a12 :: a13 :: []))))) 72 (b0 :: []) = a0 :: a1 :: a2 :: a3 :: a4 :: a5 :: a6 :: a7 :: (t8.map u8 ++ ((t9.map u8 ++ (b0 :: a11 :: a12 :: a13 :: [])))) := (spl_c (o := 71) (spl_c (o := 70) (spl_c (o := 69) (spl_c (o := 68) (spl_c (o := 67) (spl_c (o := 66) (spl_c (o := 65) (spl_c (o := 64) (spl_b (k := 32) (o := 32) h8 rfl (spl_b (k := 32) (o := 0) h9 rfl spl_0))))))))))
theorem q_spl_c8b32b32c4_75_c1 {a0 a1 a2 a3 a4 a5 a6 a7 a10 a11 a12 a13 : Value} {t8 t9 : List UInt8} {b0 : Value} (h8 : t8.length = 32) (h9 : t9.length = 32) : spl (a0 :: a1 :: a2 :: a3 :: a4 :: a5 :: a6 :: a7 :: (t8.map u8 ++ ((t9.map u8 ++ (a10 :: a11 :: a12 :: a13 :: []))))) 75 (b0 :: []) = a0 :: a1 :: a2 :: a3 :: a4 :: a5 :: a6 :: a7 :: (t8.map u8 ++ ((t9.map u8 ++ (a10 :: a11 :: a12 :: b0 :: [])))) := (spl_c (o := 74) (spl_c (o := 73) (spl_c (o := 72) (spl_c (o := 71) (spl_c (o := 70) (spl_c (o := 69) (spl_c (o := 68) (spl_c (o := 67) (spl_b (k := 32) (o := 35) h8 rfl (spl_b (k := 32) (o := 3) h9 rfl (spl_c (o := 2) (spl_c (o := 1) (spl_c (o := 0) spl_0)))))))))))))
theorem z_zeroN3 : zeroL Try.prog 3 = some ((.int .i64 0 :: [])) := by kernel_rfl
theorem z_size3 : sizeB Try.prog 3 = some 1 := by kernel_rfl
theorem q_len_c1 {a0 : Value} : (a0 :: []).length = 1 := (len_c (n := 0) len_n)
theorem q_set_c1_0 {a0 : Value} {v : Value} : (a0 :: []).set 0 v = v :: [] := set_0
theorem z_call15 : callB Try.prog 15 = true := by kernel_rfl
theorem z_size38 : sizeB Try.prog 38 = some 76 := by kernel_rfl
theorem q_one_c8b32b32c4 {a0 a1 a2 a3 a4 a5 a6 a7 a10 a11 a12 a13 : Value} {t8 t9 : List UInt8} (o0 : a0.oneCell' = true) (o1 : a1.oneCell' = true) (o2 : a2.oneCell' = true) (o3 : a3.oneCell' = true) (o4 : a4.oneCell' = true) (o5 : a5.oneCell' = true) (o6 : a6.oneCell' = true) (o7 : a7.oneCell' = true) (o10 : a10.oneCell' = true) (o11 : a11.oneCell' = true) (o12 : a12.oneCell' = true) (o13 : a13.oneCell' = true) : (a0 :: a1 :: a2 :: a3 :: a4 :: a5 :: a6 :: a7 :: (t8.map u8 ++ ((t9.map u8 ++ (a10 :: a11 :: a12 :: a13 :: []))))).all (·.oneCell') = true := (one_c o0 (one_c o1 (one_c o2 (one_c o3 (one_c o4 (one_c o5 (one_c o6 (one_c o7 (one_b (one_b (one_c o10 (one_c o11 (one_c o12 (one_c o13 one_n))))))))))))))
theorem q_spl_c8b32b32c4_0_c8b32b32c4 {a0 a1 a2 a3 a4 a5 a6 a7 a10 a11 a12 a13 : Value} {t8 t9 : List UInt8} {b0 b1 b2 b3 b4 b5 b6 b7 b10 b11 b12 b13 : Value} {s8 s9 : List UInt8} (h8 : t8.length = 32) (h9 : t9.length = 32) (g8 : s8.length = 32) (g9 : s9.length = 32) : spl (a0 :: a1 :: a2 :: a3 :: a4 :: a5 :: a6 :: a7 :: (t8.map u8 ++ ((t9.map u8 ++ (a10 :: a11 :: a12 :: a13 :: []))))) 0 (b0 :: b1 :: b2 :: b3 :: b4 :: b5 :: b6 :: b7 :: (s8.map u8 ++ ((s9.map u8 ++ (b10 :: b11 :: b12 :: b13 :: []))))) = b0 :: b1 :: b2 :: b3 :: b4 :: b5 :: b6 :: b7 :: (s8.map u8 ++ ((s9.map u8 ++ (b10 :: b11 :: b12 :: b13 :: [])))) := (spl_a (z := 76) (len_c (n := 75) (len_c (n := 74) (len_c (n := 73) (len_c (n := 72) (len_c (n := 71) (len_c (n := 70) (len_c (n := 69) (len_c (n := 68) (len_b (k := 32) (n := 36) h8 (len_b (k := 32) (n := 4) h9 (len_c (n := 3) (len_c (n := 2) (len_c (n := 1) (len_c (n := 0) len_n)))))))))))))) (len_c (n := 75) (len_c (n := 74) (len_c (n := 73) (len_c (n := 72) (len_c (n := 71) (len_c (n := 70) (len_c (n := 69) (len_c (n := 68) (len_b (k := 32) (n := 36) g8 (len_b (k := 32) (n := 4) g9 (len_c (n := 3) (len_c (n := 2) (len_c (n := 1) (len_c (n := 0) len_n)))))))))))))))
theorem z_field38_1 : fieldB Try.prog 38 1 = some 72 := by kernel_rfl
theorem z_agg3 : aggB Try.prog 3 = some false := by kernel_rfl
theorem q_ix_c8b32b32c4_72 {a0 a1 a2 a3 a4 a5 a6 a7 a10 a11 a12 a13 : Value} {t8 t9 : List UInt8} (h8 : t8.length = 32) (h9 : t9.length = 32) : (a0 :: a1 :: a2 :: a3 :: a4 :: a5 :: a6 :: a7 :: (t8.map u8 ++ ((t9.map u8 ++ (a10 :: a11 :: a12 :: a13 :: [])))))[72]? = some a10 := (ix_c (o := 71) (ix_c (o := 70) (ix_c (o := 69) (ix_c (o := 68) (ix_c (o := 67) (ix_c (o := 66) (ix_c (o := 65) (ix_c (o := 64) (ix_b (k := 32) (o := 32) h8 rfl (ix_b (k := 32) (o := 0) h9 rfl ix_0))))))))))
theorem z_field38_3 : fieldB Try.prog 38 3 = some 74 := by kernel_rfl
theorem q_ix_c8b32b32c4_74 {a0 a1 a2 a3 a4 a5 a6 a7 a10 a11 a12 a13 : Value} {t8 t9 : List UInt8} (h8 : t8.length = 32) (h9 : t9.length = 32) : (a0 :: a1 :: a2 :: a3 :: a4 :: a5 :: a6 :: a7 :: (t8.map u8 ++ ((t9.map u8 ++ (a10 :: a11 :: a12 :: a13 :: [])))))[74]? = some a12 := (ix_c (o := 73) (ix_c (o := 72) (ix_c (o := 71) (ix_c (o := 70) (ix_c (o := 69) (ix_c (o := 68) (ix_c (o := 67) (ix_c (o := 66) (ix_b (k := 32) (o := 34) h8 rfl (ix_b (k := 32) (o := 2) h9 rfl (ix_c (o := 1) (ix_c (o := 0) ix_0))))))))))))
theorem z_field38_4 : fieldB Try.prog 38 4 = some 75 := by kernel_rfl
theorem q_ix_c8b32b32c4_75 {a0 a1 a2 a3 a4 a5 a6 a7 a10 a11 a12 a13 : Value} {t8 t9 : List UInt8} (h8 : t8.length = 32) (h9 : t9.length = 32) : (a0 :: a1 :: a2 :: a3 :: a4 :: a5 :: a6 :: a7 :: (t8.map u8 ++ ((t9.map u8 ++ (a10 :: a11 :: a12 :: a13 :: [])))))[75]? = some a13 := (ix_c (o := 74) (ix_c (o := 73) (ix_c (o := 72) (ix_c (o := 71) (ix_c (o := 70) (ix_c (o := 69) (ix_c (o := 68) (ix_c (o := 67) (ix_b (k := 32) (o := 35) h8 rfl (ix_b (k := 32) (o := 3) h9 rfl (ix_c (o := 2) (ix_c (o := 1) (ix_c (o := 0) ix_0)))))))))))))
theorem z_call19 : callB Try.prog 19 = true := by kernel_rfl

set_option maxRecDepth 100000 in
set_option maxHeartbeats 4000000 in
theorem pawake (w : World) : Calls Try.prog 9 #[] w (Gives (.bool true) [] w) := by
  have wza := Pool.Wait.wf_zero.tx.hand
  have wzb := Pool.Wait.wf_zero.tx.tag
  have wca := Pool.awB_wf.tx.hand
  have wcb := Pool.awB_wf.tx.tag
  have wda := Pool.awC_wf.tx.hand
  have wdb := Pool.awC_wf.tx.tag
  have lz32 : (List.replicate 32 (0 : UInt8)).length = 32 := List.length_replicate
  refine enterL (args := []) Try.func9 rfl rfl (l := []) (Sep.refl _) ?_
  intro a0 H0
  refine wp_seq ?_
  refine reg ?_
  refine plain (y_assign rfl rfl) rfl rfl rfl H0 ?_
  clear H0; intro a1 H1
  refine fin ?_
  refine then_n ?_
  refine wp_seq ?_
  refine reg ?_
  refine st_call rfl z_call8 rfl rfl rfl rfl H1 (pnew 2 (by decide) _) ?_
  clear H1; intro v2 l2 a2 wx2 hf2 H2
  obtain ⟨bp, rfl, rfl⟩ := hf2
  simp only [List.cons_append, List.nil_append] at H2
  refine plain (y_move rfl rfl) rfl rfl rfl H2 ?_
  clear H2; intro a3 H3
  refine plain (y_extract rfl rfl rfl) rfl rfl rfl H3 ?_
  clear H3; intro a4 H4
  refine plain (y_extract rfl rfl rfl) rfl rfl rfl H4 ?_
  clear H4; intro a5 H5
  refine plain (y_assign rfl rfl) rfl rfl rfl H5 ?_
  clear H5; intro a6 H6
  refine plain (y_assign rfl rfl) rfl rfl rfl H6 ?_
  clear H6; intro a7 H7
  refine fin ?_
  refine then_n ?_
  refine wp_seq ?_
  refine wp_seq ?_
  refine reg ?_
  refine plain (y_move rfl rfl) rfl rfl rfl H7 ?_
  clear H7; intro a8 H8
  refine plain (y_neq rfl rfl rfl) rfl rfl rfl H8 ?_
  clear H8; intro a9 H9
  refine plain (y_move rfl rfl) rfl rfl rfl H9 ?_
  clear H9; intro a10 H10
  have H12 := H10.know (d := 17) (v := .bool false) rfl (congrArg Value.bool (decide_eq_false (by decide)))
  clear H10
  refine plain (y_move rfl rfl) rfl rfl rfl H12 ?_
  clear H12; intro a13 H13
  refine plain (y_peql rfl Try.underlying24 rfl rfl) rfl rfl rfl H13 ?_
  clear H13; intro a14 H14
  refine plain (y_pick_f rfl rfl rfl) rfl rfl rfl H14 ?_
  clear H14; intro a15 H15
  refine fin ?_
  refine then_n ?_
  refine cnd H15 rfl (fun hc16 => ?_) (fun hc16 => ?_) -- cond 1
  · (try simp only [decide_eq_true_eq, decide_eq_false_iff_not, Bool.not_eq_true', Bool.not_eq_false', Bool.and_eq_true, Bool.not_eq_true, Bool.not_eq_false] at hc16); (exfalso; simp at hc16)
  · skip
    try simp only [decide_eq_true_eq, decide_eq_false_iff_not, Bool.not_eq_true', Bool.not_eq_false', Bool.and_eq_true, Bool.not_eq_true, Bool.not_eq_false] at hc16
    refine wp_skip ?_
    refine then_n ?_
    refine wp_seq ?_
    refine reg ?_
    refine plain (y_move rfl rfl) rfl rfl rfl H15 ?_
    clear H15; intro a17 H17
    refine plain (y_build rfl z_zeroN36 z_places36 rfl (lay_1 (off := 1) (n := 72) rfl (q_len_c8b32b32 (by assumption) (by assumption)) (by decide) q_spl_c8b32b32_1_c1 lay_n (by rfl))) rfl rfl rfl H17 ?_
    clear H17; intro a18 H18
    refine plain (y_build rfl z_zeroN38 z_places38 rfl (lay_f (off := 0) (z := 72) (n := 76) rfl (agg_cells _) (q_len_c8b32b32 (by assumption) (by assumption)) (q_len_c8b32b32c4 (by assumption) (by assumption)) (by decide) (q_spl_c8b32b32c4_0_c8b32b32 (by assumption) (by assumption) (by assumption) (by assumption)) (lay_1 (off := 74) (n := 76) rfl (q_len_c8b32b32c4 (by assumption) (by assumption)) (by decide) (q_spl_c8b32b32c4_74_c1 (by assumption) (by assumption)) (lay_1 (off := 73) (n := 76) rfl (q_len_c8b32b32c4 (by assumption) (by assumption)) (by decide) (q_spl_c8b32b32c4_73_c1 (by assumption) (by assumption)) lay_n (by rfl)) (by rfl)))) rfl rfl rfl H18 ?_
    clear H18; intro a19 H19
    refine st_callk2 (is := [It.row 38 76 (.slice none 0 0) [].length (Pool.wc []), It.blk bp 63 [i64 2, (.slice none 0 0)]]) (enters_call rfl z_call10 rfl) rfl rfl rfl H19 (.cons (by repeat (first | exact Ph | apply Pt)) (.cons (by repeat (first | exact Ph | apply Pt)) (.nil _))) (fun hs => pput [] Pool.wf_nil 2 bp (.slice none 0 0) (by decide) Pool.aw_g0 Pool.awA Pool.awA_wf hs) ?_
    clear H19; intro v20 l20 a20 wx20 hf20 H20
    rw [Pool.aw_put1] at hf20
    obtain ⟨rfl, v1, rfl⟩ := hf20
    simp only [List.cons_append, List.nil_append] at H20
    refine fin ?_
    refine then_n ?_
    refine wp_seq ?_
    refine reg ?_
    refine plain (y_move rfl rfl) rfl rfl rfl H20 ?_
    clear H20; intro a21 H21
    refine plain (y_build rfl z_zeroN38 z_places38 rfl (lay_1 (off := 72) (n := 76) rfl (q_len_c8b32b32c4 (by assumption) (by assumption)) (by decide) (q_spl_c8b32b32c4_72_c1 (by assumption) (by assumption)) (lay_1 (off := 74) (n := 76) rfl (q_len_c8b32b32c4 (by assumption) (by assumption)) (by decide) (q_spl_c8b32b32c4_74_c1 (by assumption) (by assumption)) (lay_1 (off := 75) (n := 76) rfl (q_len_c8b32b32c4 (by assumption) (by assumption)) (by decide) (q_spl_c8b32b32c4_75_c1 (by assumption) (by assumption)) (lay_1 (off := 73) (n := 76) rfl (q_len_c8b32b32c4 (by assumption) (by assumption)) (by decide) (q_spl_c8b32b32c4_73_c1 (by assumption) (by assumption)) lay_n (by rfl)) (by rfl)) (by rfl)) (by rfl))) rfl rfl rfl H21 ?_
    clear H21; intro a22 H22
    refine st_callk2 (is := [It.row 38 76 v1 [Pool.awA].length (Pool.wc [Pool.awA]), It.blk bp 63 [i64 2, v1]]) (enters_call rfl z_call10 rfl) rfl rfl rfl H22 (.cons (by repeat (first | exact Ph | apply Pt)) (.cons (by repeat (first | exact Ph | apply Pt)) (.nil _))) (fun hs => pput [Pool.awA] Pool.aw_w1 2 bp v1 (by decide) Pool.aw_g1 Pool.awB Pool.awB_wf hs) ?_
    clear H22; intro v23 l23 a23 wx23 hf23 H23
    rw [Pool.aw_put2] at hf23
    obtain ⟨rfl, v2, rfl⟩ := hf23
    simp only [List.cons_append, List.nil_append] at H23
    refine fin ?_
    refine then_n ?_
    refine wp_seq ?_
    refine reg ?_
    refine st_alloc rfl z_zeroN3 rfl rfl rfl H23 ?_
    clear H23; intro b24 a24 wx24 H24
    refine st_store1N rfl z_size3 rfl rfl rfl (by repeat (first | exact Uh | apply Ut)) q_len_c1 q_set_c1_0 (by decide) rfl rfl H24 ?_
    clear H24; intro wx25 H25
    refine fin ?_
    refine then_n ?_
    refine wp_seq ?_
    refine reg ?_
    refine plain (y_fn rfl rfl rfl) rfl rfl rfl H25 ?_
    clear H25; intro a26 H26
    refine plain (y_assign rfl rfl) rfl rfl rfl H26 ?_
    clear H26; intro a27 H27
    refine fin ?_
    refine then_n ?_
    refine wp_seq ?_
    refine reg ?_
    refine plain (y_move rfl rfl) rfl rfl rfl H27 ?_
    clear H27; intro a28 H28
    refine plain (y_move rfl rfl) rfl rfl rfl H28 ?_
    clear H28; intro a29 H29
    refine st_callk2 (is := [It.row 38 76 v2 [Pool.awA, Pool.awB].length (Pool.wc [Pool.awA, Pool.awB]), It.blk bp 63 [i64 2, v2]]) (enters_call rfl z_call15 rfl) rfl rfl rfl H29 (.cons (by repeat (first | exact Ph | apply Pt)) (.cons (by repeat (first | exact Ph | apply Pt)) (.nil _))) (fun hs => pnext [Pool.awA, Pool.awB] Pool.aw_w2 2 bp v2 (by decide) Pool.aw_g2 (List.replicate 64 0) 4 24 (.pointer (some ⟨b24, 0, none⟩)) hs (by kernel_rfl) (fun w' hF q hq => by rw [Pool.rep_at 0 hq]; exact pawc b24 0 q (Sep.kept H29.sep (.cons (by repeat (first | exact Ph | apply Pt)) (.cons (by repeat (first | exact Ph | apply Pt)) (.nil _))) (by repeat (first | exact Mh | apply Mt)) hF))) ?_
    clear H29; intro v30 l30 a30 wx30 hf30 H30
    rw [Pool.aw_next1] at hf30
    obtain ⟨rfl, v3, rfl⟩ := hf30
    simp only [List.cons_append, List.nil_append] at H30
    refine plain (y_move rfl rfl) rfl rfl rfl H30 ?_
    clear H30; intro a31 H31
    refine plain (y_extract rfl rfl rfl) rfl rfl rfl H31 ?_
    clear H31; intro a32 H32
    refine plain (y_extract rfl rfl rfl) rfl rfl rfl H32 ?_
    clear H32; intro a33 H33
    refine st_alloc rfl z_zeroN38 rfl rfl rfl H33 ?_
    clear H33; intro b34 a34 wx34 H34
    refine st_storeN rfl z_size38 rfl rfl (agg_cells _) (by repeat (first | exact Uh | apply Ut)) (q_one_c8b32b32c4 rfl rfl rfl rfl rfl rfl rfl rfl rfl rfl rfl rfl) (q_len_c8b32b32c4 (by assumption) (by assumption)) (q_len_c8b32b32c4 (by assumption) (by assumption)) (q_spl_c8b32b32c4_0_c8b32b32c4 (by assumption) (by assumption) (by assumption) (by assumption)) (by decide) rfl rfl H34 ?_
    clear H34; intro wx35 H35
    refine plain (y_assign rfl rfl) rfl rfl rfl H35 ?_
    clear H35; intro a36 H36
    refine fin ?_
    refine then_n ?_
    refine wp_seq ?_
    refine reg ?_
    refine plain (y_move rfl rfl) rfl rfl rfl H36 ?_
    clear H36; intro a37 H37
    refine plain (y_move rfl rfl) rfl rfl rfl H37 ?_
    clear H37; intro a38 H38
    refine st_callk2 (is := [It.row 38 76 v3 [Pool.awA, Pool.awB].length (Pool.wc [Pool.awA, Pool.awB]), It.blk bp 63 [i64 2, v3]]) (enters_call rfl z_call15 rfl) rfl rfl rfl H38 (.cons (by repeat (first | exact Ph | apply Pt)) (.cons (by repeat (first | exact Ph | apply Pt)) (.nil _))) (fun hs => pnext [Pool.awA, Pool.awB] Pool.aw_w2 2 bp v3 (by decide) Pool.aw_g2 (List.replicate 64 0) 5 24 (.pointer (some ⟨b24, 0, none⟩)) hs (by kernel_rfl) (fun w' hF q hq => by rw [Pool.rep_at 0 hq]; exact pawc b24 0 q (Sep.kept H38.sep (.cons (by repeat (first | exact Ph | apply Pt)) (.cons (by repeat (first | exact Ph | apply Pt)) (.nil _))) (by repeat (first | exact Mh | apply Mt)) hF))) ?_
    clear H38; intro v39 l39 a39 wx39 hf39 H39
    rw [Pool.aw_next2] at hf39
    obtain ⟨rfl, v4, rfl⟩ := hf39
    simp only [List.cons_append, List.nil_append] at H39
    refine plain (y_move rfl rfl) rfl rfl rfl H39 ?_
    clear H39; intro a40 H40
    refine plain (y_extract rfl rfl rfl) rfl rfl rfl H40 ?_
    clear H40; intro a41 H41
    refine plain (y_extract rfl rfl rfl) rfl rfl rfl H41 ?_
    clear H41; intro a42 H42
    refine st_alloc rfl z_zeroN38 rfl rfl rfl H42 ?_
    clear H42; intro b43 a43 wx43 H43
    refine st_storeN rfl z_size38 rfl rfl (agg_cells _) (by repeat (first | exact Uh | apply Ut)) (q_one_c8b32b32c4 rfl rfl rfl rfl rfl rfl rfl rfl rfl rfl rfl rfl) (q_len_c8b32b32c4 (by assumption) (by assumption)) (q_len_c8b32b32c4 (by assumption) (by assumption)) (q_spl_c8b32b32c4_0_c8b32b32c4 (by assumption) (by assumption) (by assumption) (by assumption)) (by decide) rfl rfl H43 ?_
    clear H43; intro wx44 H44
    refine plain (y_assign rfl rfl) rfl rfl rfl H44 ?_
    clear H44; intro a45 H45
    refine fin ?_
    refine then_n ?_
    refine wp_seq ?_
    refine reg ?_
    refine st_store1N rfl z_size3 rfl rfl rfl (by repeat (first | exact Uh | apply Ut)) q_len_c1 q_set_c1_0 (by decide) rfl rfl H45 ?_
    clear H45; intro wx46 H46
    refine fin ?_
    refine then_n ?_
    refine wp_seq ?_
    refine reg ?_
    refine plain (y_move rfl rfl) rfl rfl rfl H46 ?_
    clear H46; intro a47 H47
    refine plain (y_move rfl rfl) rfl rfl rfl H47 ?_
    clear H47; intro a48 H48
    refine st_callk2 (is := [It.row 38 76 v4 [Pool.awC].length (Pool.wc [Pool.awC]), It.blk bp 63 [i64 2, v4]]) (enters_call rfl z_call15 rfl) rfl rfl rfl H48 (.cons (by repeat (first | exact Ph | apply Pt)) (.cons (by repeat (first | exact Ph | apply Pt)) (.nil _))) (fun hs => pnext [Pool.awC] Pool.aw_w3 2 bp v4 (by decide) Pool.aw_g3 (List.replicate 64 1) 5 24 (.pointer (some ⟨b24, 0, none⟩)) hs (by kernel_rfl) (fun w' hF q hq => by rw [Pool.rep_at 1 hq]; exact pawc b24 1 q (Sep.kept H48.sep (.cons (by repeat (first | exact Ph | apply Pt)) (.cons (by repeat (first | exact Ph | apply Pt)) (.nil _))) (by repeat (first | exact Mh | apply Mt)) hF))) ?_
    clear H48; intro v49 l49 a49 wx49 hf49 H49
    rw [Pool.aw_next3] at hf49
    obtain ⟨rfl, v5, rfl⟩ := hf49
    simp only [List.cons_append, List.nil_append] at H49
    refine plain (y_move rfl rfl) rfl rfl rfl H49 ?_
    clear H49; intro a50 H50
    refine plain (y_extract rfl rfl rfl) rfl rfl rfl H50 ?_
    clear H50; intro a51 H51
    refine plain (y_extract rfl rfl rfl) rfl rfl rfl H51 ?_
    clear H51; intro a52 H52
    refine st_alloc rfl z_zeroN38 rfl rfl rfl H52 ?_
    clear H52; intro b53 a53 wx53 H53
    refine st_storeN rfl z_size38 rfl rfl (agg_cells _) (by repeat (first | exact Uh | apply Ut)) (q_one_c8b32b32c4 rfl rfl rfl rfl rfl rfl rfl rfl rfl rfl rfl rfl) (q_len_c8b32b32c4 (by assumption) (by assumption)) (q_len_c8b32b32c4 (by assumption) (by assumption)) (q_spl_c8b32b32c4_0_c8b32b32c4 (by assumption) (by assumption) (by assumption) (by assumption)) (by decide) rfl rfl H53 ?_
    clear H53; intro wx54 H54
    refine plain (y_assign rfl rfl) rfl rfl rfl H54 ?_
    clear H54; intro a55 H55
    refine fin ?_
    refine then_n ?_
    refine wp_seq ?_
    refine reg ?_
    refine plain (y_move rfl rfl) rfl rfl rfl H55 ?_
    clear H55; intro a56 H56
    refine plain ((by first | exact y_not_d rfl rfl | exact y_not rfl rfl)) rfl rfl rfl H56 ?_
    clear H56; intro a57 H57
    refine plain (y_move rfl rfl) rfl rfl rfl H57 ?_
    clear H57; intro a58 H58
    have H60 := H58.know (d := 49) (v := .bool true) rfl ((by first | rfl | exact congrArg Value.bool (decide_eq_true (by decide))))
    clear H58
    refine plain (y_move rfl rfl) rfl rfl rfl H60 ?_
    clear H60; intro a61 H61
    refine plain (y_pick_t rfl rfl rfl) rfl rfl rfl H61 ?_
    clear H61; intro a62 H62
    refine plain (y_move rfl rfl) rfl rfl rfl H62 ?_
    clear H62; intro a63 H63
    have H65 := H63.know (d := 52) (v := .bool true) rfl ((by first | rfl | exact congrArg Value.bool (decide_eq_true (by decide))))
    clear H63
    refine plain (y_move rfl rfl) rfl rfl rfl H65 ?_
    clear H65; intro a66 H66
    refine plain (y_pick_t rfl rfl rfl) rfl rfl rfl H66 ?_
    clear H66; intro a67 H67
    refine plain (y_move rfl rfl) rfl rfl rfl H67 ?_
    clear H67; intro a68 H68
    have H70 := H68.know (d := 55) (v := .bool true) rfl ((by first | rfl | exact congrArg Value.bool (decide_eq_true (by decide))))
    clear H68
    refine plain (y_fieldB rfl z_field38_1 rfl (by first | (simp only [Nat.zero_add, Nat.add_zero, Nat.reduceAdd]; rfl) | rfl)) rfl rfl rfl H70 ?_
    clear H70; intro a71 H71
    refine plain (y_loadB rfl z_agg3 rfl (by repeat (first | exact Mh | apply Mt)) (q_ix_c8b32b32c4_72 (by assumption) (by assumption))) rfl rfl rfl H71 ?_
    clear H71; intro a72 H72
    refine plain (y_eql rfl rfl rfl) rfl rfl rfl H72 ?_
    clear H72; intro a73 H73
    refine plain (y_pick_t rfl rfl rfl) rfl rfl rfl H73 ?_
    clear H73; intro a74 H74
    refine plain (y_move rfl rfl) rfl rfl rfl H74 ?_
    clear H74; intro a75 H75
    have H77 := H75.know (d := 60) (v := .bool true) rfl ((by first | rfl | exact congrArg Value.bool (decide_eq_true (by decide))))
    clear H75
    refine plain (y_fieldB rfl z_field38_3 rfl (by first | (simp only [Nat.zero_add, Nat.add_zero, Nat.reduceAdd]; rfl) | rfl)) rfl rfl rfl H77 ?_
    clear H77; intro a78 H78
    refine plain (y_loadB rfl z_agg3 rfl (by repeat (first | exact Mh | apply Mt)) (q_ix_c8b32b32c4_74 (by assumption) (by assumption))) rfl rfl rfl H78 ?_
    clear H78; intro a79 H79
    refine plain (y_eql rfl rfl rfl) rfl rfl rfl H79 ?_
    clear H79; intro a80 H80
    refine plain (y_pick_t rfl rfl rfl) rfl rfl rfl H80 ?_
    clear H80; intro a81 H81
    refine plain (y_move rfl rfl) rfl rfl rfl H81 ?_
    clear H81; intro a82 H82
    have H84 := H82.know (d := 65) (v := .bool true) rfl ((by first | rfl | exact congrArg Value.bool (decide_eq_true (by decide))))
    clear H82
    refine plain (y_fieldB rfl z_field38_4 rfl (by first | (simp only [Nat.zero_add, Nat.add_zero, Nat.reduceAdd]; rfl) | rfl)) rfl rfl rfl H84 ?_
    clear H84; intro a85 H85
    refine plain (y_loadB rfl z_agg3 rfl (by repeat (first | exact Mh | apply Mt)) (q_ix_c8b32b32c4_75 (by assumption) (by assumption))) rfl rfl rfl H85 ?_
    clear H85; intro a86 H86
    refine plain (y_eql rfl rfl rfl) rfl rfl rfl H86 ?_
    clear H86; intro a87 H87
    refine plain (y_pick_t rfl rfl rfl) rfl rfl rfl H87 ?_
    clear H87; intro a88 H88
    refine plain (y_move rfl rfl) rfl rfl rfl H88 ?_
    clear H88; intro a89 H89
    have H91 := H89.know (d := 70) (v := .bool true) rfl ((by first | rfl | exact congrArg Value.bool (decide_eq_true (by decide))))
    clear H89
    refine plain (y_move rfl rfl) rfl rfl rfl H91 ?_
    clear H91; intro a92 H92
    refine st_callg rfl z_call19 rfl rfl rfl rfl H92 (plen [] Pool.wf_nil 2 bp v5 (by decide) (H92.sep.all _ (by repeat (first | exact Mh | apply Mt))) (H92.sep.all _ (by repeat (first | exact Mh | apply Mt)))) ?_
    clear H92; intro a93 wx93 H93
    refine plain (y_eql rfl rfl rfl) rfl rfl rfl H93 ?_
    clear H93; intro a94 H94
    refine plain (y_pick_t rfl rfl rfl) rfl rfl rfl H94 ?_
    clear H94; intro a95 H95
    refine plain (y_assign rfl rfl) rfl rfl rfl H95 ?_
    clear H95; intro a96 H96
    refine fin ?_
    refine then_n ?_
    refine wp_ret ?_
    -- return 1
    refine ret1 rfl H96 rfl ?_
    exact ⟨_, [], rfl, ⟨congrArg Value.bool (decide_eq_true (by decide)), rfl⟩, H96.sep.sub (List.nil_sublist _)⟩

end Go.Proofs.Ytbdkgmkaakoigaa.P_Aw

set_option linter.unusedVariables false
set_option linter.unusedSimpArgs false
namespace Go.Proofs.Ytbdkgmkaakoigaa.P_Old
open Go.Sx Go.RowKit

theorem z_field63_1 : fieldB Try.prog 63 1 = some 1 := by kernel_rfl
theorem z_agg30 : aggB Try.prog 30 = some false := by kernel_rfl
theorem q_ix_c2_1 {a0 a1 : Value} : (a0 :: a1 :: [])[1]? = some a1 := (ix_c (o := 0) ix_0)
theorem z_size38 : sizeB Try.prog 38 = some 76 := by kernel_rfl
theorem z_agg38 : aggB Try.prog 38 = some true := by kernel_rfl
theorem z_zeroN38 : zeroL Try.prog 38 = some ((.int .i64 0 :: (.int .i64 0 :: (.int .i64 0 :: (.int .i64 0 :: (.string ⟨#[]⟩ :: (.bool false :: (.int .i64 0 :: (.int .i64 0 :: ((List.replicate 32 (0 : UInt8)).map u8 ++ ((List.replicate 32 (0 : UInt8)).map u8 ++ (.int .i64 0 :: (.int .i64 0 :: (.int .i64 0 :: (.int .i64 0 :: []))))))))))))))) := by kernel_rfl
theorem q_one_c8b32b32c4 {a0 a1 a2 a3 a4 a5 a6 a7 a10 a11 a12 a13 : Value} {t8 t9 : List UInt8} (o0 : a0.oneCell' = true) (o1 : a1.oneCell' = true) (o2 : a2.oneCell' = true) (o3 : a3.oneCell' = true) (o4 : a4.oneCell' = true) (o5 : a5.oneCell' = true) (o6 : a6.oneCell' = true) (o7 : a7.oneCell' = true) (o10 : a10.oneCell' = true) (o11 : a11.oneCell' = true) (o12 : a12.oneCell' = true) (o13 : a13.oneCell' = true) : (a0 :: a1 :: a2 :: a3 :: a4 :: a5 :: a6 :: a7 :: (t8.map u8 ++ ((t9.map u8 ++ (a10 :: a11 :: a12 :: a13 :: []))))).all (·.oneCell') = true := (one_c o0 (one_c o1 (one_c o2 (one_c o3 (one_c o4 (one_c o5 (one_c o6 (one_c o7 (one_b (one_b (one_c o10 (one_c o11 (one_c o12 (one_c o13 one_n))))))))))))))
theorem q_len_c8b32b32c4 {a0 a1 a2 a3 a4 a5 a6 a7 a10 a11 a12 a13 : Value} {t8 t9 : List UInt8} (h8 : t8.length = 32) (h9 : t9.length = 32) : (a0 :: a1 :: a2 :: a3 :: a4 :: a5 :: a6 :: a7 :: (t8.map u8 ++ ((t9.map u8 ++ (a10 :: a11 :: a12 :: a13 :: []))))).length = 76 := (len_c (n := 75) (len_c (n := 74) (len_c (n := 73) (len_c (n := 72) (len_c (n := 71) (len_c (n := 70) (len_c (n := 69) (len_c (n := 68) (len_b (k := 32) (n := 36) h8 (len_b (k := 32) (n := 4) h9 (len_c (n := 3) (len_c (n := 2) (len_c (n := 1) (len_c (n := 0) len_n))))))))))))))
theorem q_spl_c8b32b32c4_0_c8b32b32c4 {a0 a1 a2 a3 a4 a5 a6 a7 a10 a11 a12 a13 : Value} {t8 t9 : List UInt8} {b0 b1 b2 b3 b4 b5 b6 b7 b10 b11 b12 b13 : Value} {s8 s9 : List UInt8} (h8 : t8.length = 32) (h9 : t9.length = 32) (g8 : s8.length = 32) (g9 : s9.length = 32) : spl (a0 :: a1 :: a2 :: a3 :: a4 :: a5 :: a6 :: a7 :: (t8.map u8 ++ ((t9.map u8 ++ (a10 :: a11 :: a12 :: a13 :: []))))) 0 (b0 :: b1 :: b2 :: b3 :: b4 :: b5 :: b6 :: b7 :: (s8.map u8 ++ ((s9.map u8 ++ (b10 :: b11 :: b12 :: b13 :: []))))) = b0 :: b1 :: b2 :: b3 :: b4 :: b5 :: b6 :: b7 :: (s8.map u8 ++ ((s9.map u8 ++ (b10 :: b11 :: b12 :: b13 :: [])))) := (spl_a (z := 76) (len_c (n := 75) (len_c (n := 74) (len_c (n := 73) (len_c (n := 72) (len_c (n := 71) (len_c (n := 70) (len_c (n := 69) (len_c (n := 68) (len_b (k := 32) (n := 36) h8 (len_b (k := 32) (n := 4) h9 (len_c (n := 3) (len_c (n := 2) (len_c (n := 1) (len_c (n := 0) len_n)))))))))))))) (len_c (n := 75) (len_c (n := 74) (len_c (n := 73) (len_c (n := 72) (len_c (n := 71) (len_c (n := 70) (len_c (n := 69) (len_c (n := 68) (len_b (k := 32) (n := 36) g8 (len_b (k := 32) (n := 4) g9 (len_c (n := 3) (len_c (n := 2) (len_c (n := 1) (len_c (n := 0) len_n)))))))))))))))
theorem z_field38_2 : fieldB Try.prog 38 2 = some 73 := by kernel_rfl
theorem z_agg3 : aggB Try.prog 3 = some false := by kernel_rfl
theorem q_ix_c8b32b32c4_73 {a0 a1 a2 a3 a4 a5 a6 a7 a10 a11 a12 a13 : Value} {t8 t9 : List UInt8} (h8 : t8.length = 32) (h9 : t9.length = 32) : (a0 :: a1 :: a2 :: a3 :: a4 :: a5 :: a6 :: a7 :: (t8.map u8 ++ ((t9.map u8 ++ (a10 :: a11 :: a12 :: a13 :: [])))))[73]? = some a11 := (ix_c (o := 72) (ix_c (o := 71) (ix_c (o := 70) (ix_c (o := 69) (ix_c (o := 68) (ix_c (o := 67) (ix_c (o := 66) (ix_c (o := 65) (ix_b (k := 32) (o := 33) h8 rfl (ix_b (k := 32) (o := 1) h9 rfl (ix_c (o := 0) ix_0)))))))))))
theorem q_ld_c8b32b32c4_0_76 {a0 a1 a2 a3 a4 a5 a6 a7 a10 a11 a12 a13 : Value} {t8 t9 : List UInt8} (h8 : t8.length = 32) (h9 : t9.length = 32) : ((a0 :: a1 :: a2 :: a3 :: a4 :: a5 :: a6 :: a7 :: (t8.map u8 ++ ((t9.map u8 ++ (a10 :: a11 :: a12 :: a13 :: []))))).drop 0).take 76 = a0 :: a1 :: a2 :: a3 :: a4 :: a5 :: a6 :: a7 :: (t8.map u8 ++ ((t9.map u8 ++ (a10 :: a11 :: a12 :: a13 :: [])))) := (ld_a (len_c (n := 75) (len_c (n := 74) (len_c (n := 73) (len_c (n := 72) (len_c (n := 71) (len_c (n := 70) (len_c (n := 69) (len_c (n := 68) (len_b (k := 32) (n := 36) h8 (len_b (k := 32) (n := 4) h9 (len_c (n := 3) (len_c (n := 2) (len_c (n := 1) (len_c (n := 0) len_n)))))))))))))))
theorem z_zero38 : zeroL Try.prog 38 = some ([.int .i64 0, .int .i64 0, .int .i64 0, .int .i64 0, .string ⟨#[]⟩, .bool false, .int .i64 0, .int .i64 0, .int .u8 0, .int .u8 0, .int .u8 0, .int .u8 0, .int .u8 0, .int .u8 0, .int .u8 0, .int .u8 0, .int .u8 0, .int .u8 0, .int .u8 0, .int .u8 0, .int .u8 0, .int .u8 0, .int .u8 0, .int .u8 0, .int .u8 0, .int .u8 0, .int .u8 0, .int .u8 0, .int .u8 0, .int .u8 0, .int .u8 0, .int .u8 0, .int .u8 0, .int .u8 0, .int .u8 0, .int .u8 0, .int .u8 0, .int .u8 0, .int .u8 0, .int .u8 0, .int .u8 0, .int .u8 0, .int .u8 0, .int .u8 0, .int .u8 0, .int .u8 0, .int .u8 0, .int .u8 0, .int .u8 0, .int .u8 0, .int .u8 0, .int .u8 0, .int .u8 0, .int .u8 0, .int .u8 0, .int .u8 0, .int .u8 0, .int .u8 0, .int .u8 0, .int .u8 0, .int .u8 0, .int .u8 0, .int .u8 0, .int .u8 0, .int .u8 0, .int .u8 0, .int .u8 0, .int .u8 0, .int .u8 0, .int .u8 0, .int .u8 0, .int .u8 0, .int .i64 0, .int .i64 0, .int .i64 0, .int .i64 0]) := by kernel_rfl
theorem z_slice30 : sliceB Try.prog 30 = some (38, 76, 168) := by kernel_rfl
theorem z_notint30 : notIntB Try.prog 30 = true := by kernel_rfl
theorem z_size30 : sizeB Try.prog 30 = some 1 := by kernel_rfl
theorem q_len_c2 {a0 a1 : Value} : (a0 :: a1 :: []).length = 2 := (len_c (n := 1) (len_c (n := 0) len_n))
theorem q_set_c2_1 {a0 a1 : Value} {v : Value} : (a0 :: a1 :: []).set 1 v = a0 :: v :: [] := (set_c (o := 0) set_0)

set_option maxRecDepth 100000 in
set_option maxHeartbeats 2000000 in
theorem pold (L : List Pool.Wait) (hL : Pool.Wfs L) (size : Int) (bp : Nat) (v : Value) (hlen : L.length ≤ 1000) (now : Int) {w : World} (hs : Sep (fps [It.row 38 76 v L.length (Pool.wc L), It.blk bp 63 [i64 size, v]]) w w [It.row 38 76 v L.length (Pool.wc L), It.blk bp 63 [i64 size, v]]) : Calls Try.prog 13 #[.pointer (some ⟨bp, 0, none⟩), .int .i64 now] w (Post (fps [It.row 38 76 v L.length (Pool.wc L), It.blk bp 63 [i64 size, v]]) w fun u l' => ∃ v', l' = [It.row 38 76 u (L.filter (Pool.isOld now)).length (Pool.wc (L.filter (Pool.isOld now))), It.row 38 76 v' (L.filter fun w => !Pool.isOld now w).length (Pool.wc (L.filter fun w => !Pool.isOld now w)), It.blk bp 63 [i64 size, v']]) := by
  obtain ⟨A, cc, rfl, hRx, hmx⟩ := row_shape (v := v) hs (by repeat (first | exact Mh | apply Mt))
  have hcap := row_cap (A := A) (c := cc) hs (by repeat (first | exact Mh | apply Mt))
  have lz32 : (List.replicate 32 (0 : UInt8)).length = 32 := List.length_replicate
  refine enterL (args := [.pointer (some ⟨bp, 0, none⟩), .int .i64 now]) Try.func13 rfl rfl (l := [It.row 38 76 (.slice A L.length cc) L.length (Pool.wc L), It.blk bp 63 [i64 size, (.slice A L.length cc)]]) hs ?_
  intro a0 H0
  refine wp_seq ?_
  refine reg ?_
  refine plain (y_assign rfl rfl) rfl rfl rfl H0 ?_
  clear H0; intro a1 H1
  refine fin ?_
  refine then_n ?_
  refine wp_seq ?_
  refine reg ?_
  refine plain (y_assign rfl rfl) rfl rfl rfl H1 ?_
  clear H1; intro a2 H2
  refine plain (y_assign rfl rfl) rfl rfl rfl H2 ?_
  clear H2; intro a3 H3
  refine fin ?_
  refine then_n ?_
  refine wp_seq ?_
  refine wp_seq ?_
  refine reg ?_
  refine plain (y_move rfl rfl) rfl rfl rfl H3 ?_
  clear H3; intro a4 H4
  refine plain (y_peql rfl Try.underlying24 rfl rfl) rfl rfl rfl H4 ?_
  clear H4; intro a5 H5
  refine fin ?_
  refine then_n ?_
  refine cnd_f H5 rfl ?_
  refine wp_skip ?_
  refine then_n ?_
  refine wp_seq ?_
  refine wp_seq ?_
  refine reg ?_
  refine plain (y_move rfl rfl) rfl rfl rfl H5 ?_
  clear H5; intro a7 H7
  refine plain (y_nilCheck rfl rfl) rfl rfl rfl H7 ?_
  clear H7; intro a8 H8
  refine plain (y_fieldB rfl z_field63_1 rfl (by first | (simp only [Nat.zero_add, Nat.add_zero, Nat.reduceAdd]; rfl) | rfl)) rfl rfl rfl H8 ?_
  clear H8; intro a9 H9
  refine plain (y_loadB rfl z_agg30 rfl (by repeat (first | exact Mh | apply Mt)) q_ix_c2_1) rfl rfl rfl H9 ?_
  clear H9; intro a10 H10
  refine plain (y_len rfl Try.underlying30 rfl) rfl rfl rfl H10 ?_
  clear H10; intro a11 H11
  refine plain (y_move rfl rfl) rfl rfl rfl H11 ?_
  clear H11; intro a12 H12
  refine fin ?_
  refine then_n ?_
  refine wp_block ?_
  replace H12 := H12.nilRow 38 76
  replace H12 := H12.nilRow 38 76
  refine loop (ι := Nat × (Value × Value)) (fun y => [(0, .pointer (some ⟨bp, 0, none⟩)), (1, .int .i64 now), (5, y.2.1), (6, y.2.2), (14, (.slice A L.length cc)), (15, .int .i64 (L.length : Int)), (16, .int .i64 (y.1 : Int))]) (fun y => [It.row 38 76 y.2.1 ((L.take y.1).filter (Pool.isOld now)).length (Pool.wc ((L.take y.1).filter (Pool.isOld now))), It.row 38 76 y.2.2 ((L.take y.1).filter fun w => !Pool.isOld now w).length (Pool.wc ((L.take y.1).filter fun w => !Pool.isOld now w)), It.row 38 76 (.slice A L.length cc) L.length (Pool.wc L), It.blk bp 63 [i64 size, (.slice A L.length cc)]]) (fun y => y.1 ≤ L.length) (fun y => L.length - y.1) ((0, (.slice none 0 0, .slice none 0 0))) (Nat.zero_le _) (H12.weak ⟨rfl, rfl, rfl, rfl, rfl, rfl, rfl, trivial⟩ rfl) ?_
  clear H12; intro y a13 wx13 hok13 H13
  obtain ⟨k, v1, v2⟩ := y
  dsimp only at hok13 H13
  have hok := hok13
  obtain ⟨A1, c1, rfl, hR1, hm1⟩ := row_shape (v := v1) H13.sep (by repeat (first | exact Mh | apply Mt))
  obtain ⟨A2, c2, rfl, hR2, hm2⟩ := row_shape (v := v2) H13.sep (by repeat (first | exact Mh | apply Mt))
  refine wp_seq ?_
  refine reg ?_
  refine plain (y_lss rfl rfl rfl) rfl rfl rfl H13 ?_
  clear H13; intro a14 H14
  refine fin ?_
  refine then_n ?_
  refine wp_seq ?_
  refine cnd H14 rfl (fun hc15 => ?_) (fun hc15 => ?_) -- cond 2
  · skip
    try simp only [decide_eq_true_eq, decide_eq_false_iff_not, Bool.not_eq_true', Bool.not_eq_false', Bool.and_eq_true, Bool.not_eq_true, Bool.not_eq_false] at hc15
    refine wp_skip ?_
    refine then_n ?_
    refine wp_seq ?_
    refine wp_block ?_
    refine wp_seq ?_
    have hkl : k < L.length := by omega
    have hwk := hL.at_ hkl
    have whd := hwk.tx.hand
    have wtg := hwk.tx.tag
    have hfl := List.length_filter_le (Pool.isOld now) (L.take k)
    have hfn := List.length_filter_le (fun w => !Pool.isOld now w) (L.take k)
    rw [List.length_take] at hfl hfn
    refine reg ?_
    refine plain (y_ixR rfl Try.underlying30 z_size38 rfl rfl (by omega) (by omega) (rd_row (by repeat (first | exact Mh | apply Mt))) (by rw [Pool.wc_len hL]; omega)) rfl rfl rfl H14 ?_
    clear H14; intro a16 H16
    refine plain (y_loadAS rfl z_agg38 z_size38 rfl (rd_row (by repeat (first | exact Mh | apply Mt))) (show _ = Pool.Wait.cells (L.getD k Pool.Wait.zero) from Pool.wc_take hL k (by omega)) hwk.len (by decide)) rfl rfl rfl H16 ?_
    clear H16; intro a17 H17
    refine st_alloc rfl z_zeroN38 rfl rfl rfl H17 ?_
    clear H17; intro b18 a18 wx18 H18
    refine st_storeN rfl z_size38 rfl rfl (agg_cells _) (by repeat (first | exact Uh | apply Ut)) (q_one_c8b32b32c4 rfl rfl rfl rfl rfl rfl rfl rfl rfl rfl rfl rfl) (q_len_c8b32b32c4 (by assumption) (by assumption)) (q_len_c8b32b32c4 (by assumption) (by assumption)) (q_spl_c8b32b32c4_0_c8b32b32c4 (by assumption) (by assumption) (by assumption) (by assumption)) (by decide) rfl rfl H18 ?_
    clear H18; intro wx19 H19
    refine fin ?_
    refine then_n ?_
    refine wp_seq ?_
    refine reg ?_
    refine plain (y_fieldB rfl z_field38_2 rfl (by first | (simp only [Nat.zero_add, Nat.add_zero, Nat.reduceAdd]; rfl) | rfl)) rfl rfl rfl H19 ?_
    clear H19; intro a20 H20
    refine plain (y_loadB rfl z_agg3 rfl (by repeat (first | exact Mh | apply Mt)) (q_ix_c8b32b32c4_73 (by assumption) (by assumption))) rfl rfl rfl H20 ?_
    clear H20; intro a21 H21
    refine plain (y_move rfl rfl) rfl rfl rfl H21 ?_
    clear H21; intro a22 H22
    refine plain (y_lss rfl rfl rfl) rfl rfl rfl H22 ?_
    clear H22; intro a23 H23
    refine fin ?_
    refine then_n ?_
    refine cnd H23 rfl (fun hc24 => ?_) (fun hc24 => ?_) -- cond 3
    · skip
      try simp only [decide_eq_true_eq, decide_eq_false_iff_not, Bool.not_eq_true', Bool.not_eq_false', Bool.and_eq_true, Bool.not_eq_true, Bool.not_eq_false] at hc24
      have isYes := True.intro
      refine reg ?_
      refine plain (y_move rfl rfl) rfl rfl rfl H23 ?_
      clear H23; intro a25 H25
      refine plain (y_loadAB rfl z_agg38 z_size38 rfl (by repeat (first | exact Mh | apply Mt)) (q_ld_c8b32b32c4_0_76 (by assumption) (by assumption)) (q_len_c8b32b32c4 (by assumption) (by assumption))) rfl rfl rfl H25 ?_
      clear H25; intro a26 H26
      refine st_buildSlice rfl Try.underlying30 z_size38 z_zero38 rfl rfl rfl (lay_agg (agg_cells _) hwk.len rfl) rfl rfl rfl H26 ?_
      clear H26; intro b27 a27 wx27 H27
      refine st_append rfl z_slice30 z_notint30 rfl rfl (fun _ => (by repeat (first | exact Uh | apply Ut))) (fun w hs => Src.slice ((rd_blkA (by repeat (first | exact Mh | apply Mt))) w hs) hwk.len (Pool.wait_cell _)) (by unfold maxLen at *; first | omega | (simp only [List.length_cons, List.length_nil, List.length_append, List.length_map]; omega)) (by omega) rfl rfl rfl H27 ?_
      clear H27; intro v28 a28 wx28 hnil28 H28
      obtain ⟨ArY, crY, hvrY, hRrY, hmrY⟩ := row_shape (v := v28) H28.sep (by repeat (first | exact Mh | apply Mt))
      subst hvrY
      refine plain (y_assign rfl rfl) rfl rfl rfl H28 ?_
      clear H28; intro a29 H29
      refine fin ?_
      refine inb_n ?_
      refine then_n ?_
      refine reg ?_
      refine plain (y_add rfl rfl rfl (by first | exact w64 (by omega) (by omega) | rfl)) rfl rfl rfl H29 ?_
      clear H29; intro a30 H30
      refine plain (y_move rfl rfl) rfl rfl rfl H30 ?_
      clear H30; intro a31 H31
      refine fin ?_
      refine then_n ?_
      first | (have hz := isYes; refine ⟨(k + 1, (.slice ArY (((L.take k).filter (Pool.isOld now)).length + 1) crY, .slice A2 ((L.take k).filter fun w => !Pool.isOld now w).length c2)), by dsimp only; omega, by dsimp only; omega, (H31.drop (List.Sublist.cons _ (List.Sublist.cons _ (List.Sublist.refl _)))).weak ⟨rfl, rfl, rfl, rfl, rfl, rfl, fi rfl (by dsimp only; omega), trivial⟩ ?_⟩ <;> (rw [(Pool.old_yes hkl (by assumption)).1, (Pool.old_yes hkl (by assumption)).2, Pool.wc_append, Pool.wc_one, List.length_append]; rfl)) | (have hz := isNo; refine ⟨(k + 1, (.slice A1 ((L.take k).filter (Pool.isOld now)).length c1, .slice ArN (((L.take k).filter fun w => !Pool.isOld now w).length + 1) crN)), by dsimp only; omega, by dsimp only; omega, (H31.drop (List.Sublist.cons _ (List.Sublist.cons _ (List.Sublist.refl _)))).weak ⟨rfl, rfl, rfl, rfl, rfl, rfl, fi rfl (by dsimp only; omega), trivial⟩ ?_⟩ <;> (rw [(Pool.old_no hkl (by assumption)).1, (Pool.old_no hkl (by assumption)).2, Pool.wc_append, Pool.wc_one, List.length_append]; rfl))
    · skip
      try simp only [decide_eq_true_eq, decide_eq_false_iff_not, Bool.not_eq_true', Bool.not_eq_false', Bool.and_eq_true, Bool.not_eq_true, Bool.not_eq_false] at hc24
      have isNo := True.intro
      refine reg ?_
      refine plain (y_move rfl rfl) rfl rfl rfl H23 ?_
      clear H23; intro a32 H32
      refine plain (y_loadAB rfl z_agg38 z_size38 rfl (by repeat (first | exact Mh | apply Mt)) (q_ld_c8b32b32c4_0_76 (by assumption) (by assumption)) (q_len_c8b32b32c4 (by assumption) (by assumption))) rfl rfl rfl H32 ?_
      clear H32; intro a33 H33
      refine st_buildSlice rfl Try.underlying30 z_size38 z_zero38 rfl rfl rfl (lay_agg (agg_cells _) hwk.len rfl) rfl rfl rfl H33 ?_
      clear H33; intro b34 a34 wx34 H34
      refine st_append rfl z_slice30 z_notint30 rfl rfl (fun _ => (by repeat (first | exact Uh | apply Ut))) (fun w hs => Src.slice ((rd_blkA (by repeat (first | exact Mh | apply Mt))) w hs) hwk.len (Pool.wait_cell _)) (by unfold maxLen at *; first | omega | (simp only [List.length_cons, List.length_nil, List.length_append, List.length_map]; omega)) (by omega) rfl rfl rfl H34 ?_
      clear H34; intro v35 a35 wx35 hnil35 H35
      obtain ⟨ArN, crN, hvrN, hRrN, hmrN⟩ := row_shape (v := v35) H35.sep (by repeat (first | exact Mh | apply Mt))
      subst hvrN
      refine plain (y_assign rfl rfl) rfl rfl rfl H35 ?_
      clear H35; intro a36 H36
      refine fin ?_
      refine inb_n ?_
      refine then_n ?_
      refine reg ?_
      refine plain (y_add rfl rfl rfl (by first | exact w64 (by omega) (by omega) | rfl)) rfl rfl rfl H36 ?_
      clear H36; intro a37 H37
      refine plain (y_move rfl rfl) rfl rfl rfl H37 ?_
      clear H37; intro a38 H38
      refine fin ?_
      refine then_n ?_
      first | (have hz := isYes; refine ⟨(k + 1, (.slice ArY (((L.take k).filter (Pool.isOld now)).length + 1) crY, .slice A2 ((L.take k).filter fun w => !Pool.isOld now w).length c2)), by dsimp only; omega, by dsimp only; omega, (H38.drop (List.Sublist.cons _ (List.Sublist.cons _ (List.Sublist.refl _)))).weak ⟨rfl, rfl, rfl, rfl, rfl, rfl, fi rfl (by dsimp only; omega), trivial⟩ ?_⟩ <;> (rw [(Pool.old_yes hkl (by assumption)).1, (Pool.old_yes hkl (by assumption)).2, Pool.wc_append, Pool.wc_one, List.length_append]; rfl)) | (have hz := isNo; refine ⟨(k + 1, (.slice A1 ((L.take k).filter (Pool.isOld now)).length c1, .slice ArN (((L.take k).filter fun w => !Pool.isOld now w).length + 1) crN)), by dsimp only; omega, by dsimp only; omega, (H38.drop (List.Sublist.cons _ (List.Sublist.cons _ (List.Sublist.refl _)))).weak ⟨rfl, rfl, rfl, rfl, rfl, rfl, fi rfl (by dsimp only; omega), trivial⟩ ?_⟩ <;> (rw [(Pool.old_no hkl (by assumption)).1, (Pool.old_no hkl (by assumption)).2, Pool.wc_append, Pool.wc_one, List.length_append]; rfl))
  · skip
    try simp only [decide_eq_true_eq, decide_eq_false_iff_not, Bool.not_eq_true', Bool.not_eq_false', Bool.and_eq_true, Bool.not_eq_true, Bool.not_eq_false] at hc15
    refine wp_exit ?_
    refine then_x ?_
    refine then_x ?_
    refine inb_hit ?_
    refine then_n ?_
    refine wp_seq ?_
    refine reg ?_
    refine plain (y_move rfl rfl) rfl rfl rfl H14 ?_
    clear H14; intro a39 H39
    refine plain (y_move rfl rfl) rfl rfl rfl H39 ?_
    clear H39; intro a40 H40
    refine plain (y_nilCheck rfl rfl) rfl rfl rfl H40 ?_
    clear H40; intro a41 H41
    refine plain (y_fieldB rfl z_field63_1 rfl (by first | (simp only [Nat.zero_add, Nat.add_zero, Nat.reduceAdd]; rfl) | rfl)) rfl rfl rfl H41 ?_
    clear H41; intro a42 H42
    refine st_store1N rfl z_size30 rfl rfl rfl (by repeat (first | exact Uh | apply Ut)) q_len_c2 q_set_c2_1 (by decide) rfl rfl H42 ?_
    clear H42; intro wx43 H43
    refine fin ?_
    refine then_n ?_
    refine wp_seq ?_
    refine reg ?_
    refine plain (y_move rfl rfl) rfl rfl rfl H43 ?_
    clear H43; intro a44 H44
    refine plain (y_assign rfl rfl) rfl rfl rfl H44 ?_
    clear H44; intro a45 H45
    refine fin ?_
    refine then_n ?_
    refine wp_ret ?_
    -- return 1
    refine ret1 rfl H45 rfl ?_
    have hsx := H45.sep.sub (List.Sublist.cons_cons _ (List.Sublist.cons_cons _ (List.Sublist.cons _ (List.Sublist.refl _))))
    have htk : L.take k = L := List.take_of_length_le (by omega)
    rw [htk] at hsx ⊢
    exact ⟨_, _, rfl, ⟨_, rfl⟩, hsx⟩
end Go.Proofs.Ytbdkgmkaakoigaa.P_Old

set_option linter.unusedVariables false
set_option linter.unusedSimpArgs false
namespace Go.Proofs.Ytbdkgmkaakoigaa.P_L2
open Go.Sx Go.RowKit Go.Proofs.Ytbdkgmkaakoigaa.P_EqT Go.Proofs.Ytbdkgmkaakoigaa.P_R1 Go.Proofs.Ytbdkgmkaakoigaa.P_R2 Go.Proofs.Ytbdkgmkaakoigaa.P_R3 Go.Proofs.Ytbdkgmkaakoigaa.P_New Go.Proofs.Ytbdkgmkaakoigaa.P_Aw Go.Proofs.Ytbdkgmkaakoigaa.P_Put Go.Proofs.Ytbdkgmkaakoigaa.P_Nx Go.Proofs.Ytbdkgmkaakoigaa.P_Old Go.Proofs.Ytbdkgmkaakoigaa.P_All

theorem z_call8 : callB Try.prog 8 = true := by kernel_rfl
theorem z_call9 : callB Try.prog 9 = true := by kernel_rfl
theorem z_zeroN32 : zeroL Try.prog 32 = some ((.int .i64 0 :: (.slice none 0 0 :: []))) := by kernel_rfl
theorem z_places32 : placesB Try.prog 32 = some [(0, 1), (1, 1)] := by kernel_rfl
theorem q_len_c2 {a0 a1 : Value} : (a0 :: a1 :: []).length = 2 := (len_c (n := 1) (len_c (n := 0) len_n))
theorem q_spl_c2_0_c1 {a0 a1 : Value} {b0 : Value} : spl (a0 :: a1 :: []) 0 (b0 :: []) = b0 :: a1 :: [] := spl_0
theorem z_slice23 : sliceB Try.prog 23 = some (3, 1, 8) := by kernel_rfl
theorem z_zval3 : (Try.prog.info? 3).bind (·.zero) = some (.int .i64 0) := by kernel_rfl
theorem z_zeroN23 : zeroL Try.prog 23 = some ((.slice none 0 0 :: [])) := by kernel_rfl
theorem z_size23 : sizeB Try.prog 23 = some 1 := by kernel_rfl
theorem q_len_c1 {a0 : Value} : (a0 :: []).length = 1 := (len_c (n := 0) len_n)
theorem q_set_c1_0 {a0 : Value} {v : Value} : (a0 :: []).set 0 v = v :: [] := set_0
theorem z_agg23 : aggB Try.prog 23 = some false := by kernel_rfl
theorem q_ix_c1_0 {a0 : Value} : (a0 :: [])[0]? = some a0 := ix_0
theorem z_size3 : sizeB Try.prog 3 = some 1 := by kernel_rfl
theorem z_agg3 : aggB Try.prog 3 = some false := by kernel_rfl
theorem z_size40 : sizeB Try.prog 40 = some 78 := by kernel_rfl
theorem z_agg40 : aggB Try.prog 40 = some true := by kernel_rfl
theorem z_zeroN40 : zeroL Try.prog 40 = some ((.int .i64 0 :: (.int .i64 0 :: (.int .i64 0 :: (.int .i64 0 :: (.int .i64 0 :: (.int .i64 0 :: (.string ⟨#[]⟩ :: (.bool false :: (.int .i64 0 :: (.int .i64 0 :: ((List.replicate 32 (0 : UInt8)).map u8 ++ ((List.replicate 32 (0 : UInt8)).map u8 ++ (.int .i64 0 :: (.int .i64 0 :: (.int .i64 0 :: (.int .i64 0 :: []))))))))))))))))) := by kernel_rfl
theorem q_one_c10b32b32c4 {a0 a1 a2 a3 a4 a5 a6 a7 a8 a9 a12 a13 a14 a15 : Value} {t10 t11 : List UInt8} (o0 : a0.oneCell' = true) (o1 : a1.oneCell' = true) (o2 : a2.oneCell' = true) (o3 : a3.oneCell' = true) (o4 : a4.oneCell' = true) (o5 : a5.oneCell' = true) (o6 : a6.oneCell' = true) (o7 : a7.oneCell' = true) (o8 : a8.oneCell' = true) (o9 : a9.oneCell' = true) (o12 : a12.oneCell' = true) (o13 : a13.oneCell' = true) (o14 : a14.oneCell' = true) (o15 : a15.oneCell' = true) : (a0 :: a1 :: a2 :: a3 :: a4 :: a5 :: a6 :: a7 :: a8 :: a9 :: (t10.map u8 ++ ((t11.map u8 ++ (a12 :: a13 :: a14 :: a15 :: []))))).all (·.oneCell') = true := (one_c o0 (one_c o1 (one_c o2 (one_c o3 (one_c o4 (one_c o5 (one_c o6 (one_c o7 (one_c o8 (one_c o9 (one_b (one_b (one_c o12 (one_c o13 (one_c o14 (one_c o15 one_n))))))))))))))))
theorem q_len_c10b32b32c4 {a0 a1 a2 a3 a4 a5 a6 a7 a8 a9 a12 a13 a14 a15 : Value} {t10 t11 : List UInt8} (h10 : t10.length = 32) (h11 : t11.length = 32) : (a0 :: a1 :: a2 :: a3 :: a4 :: a5 :: a6 :: a7 :: a8 :: a9 :: (t10.map u8 ++ ((t11.map u8 ++ (a12 :: a13 :: a14 :: a15 :: []))))).length = 78 := (len_c (n := 77) (len_c (n := 76) (len_c (n := 75) (len_c (n := 74) (len_c (n := 73) (len_c (n := 72) (len_c (n := 71) (len_c (n := 70) (len_c (n := 69) (len_c (n := 68) (len_b (k := 32) (n := 36) h10 (len_b (k := 32) (n := 4) h11 (len_c (n := 3) (len_c (n := 2) (len_c (n := 1) (len_c (n := 0) len_n))))))))))))))))
theorem q_spl_c10b32b32c4_0_c10b32b32c4 {a0 a1 a2 a3 a4 a5 a6 a7 a8 a9 a12 a13 a14 a15 : Value} {t10 t11 : List UInt8} {b0 b1 b2 b3 b4 b5 b6 b7 b8 b9 b12 b13 b14 b15 : Value} {s10 s11 : List UInt8} (h10 : t10.length = 32) (h11 : t11.length = 32) (g10 : s10.length = 32) (g11 : s11.length = 32) : spl (a0 :: a1 :: a2 :: a3 :: a4 :: a5 :: a6 :: a7 :: a8 :: a9 :: (t10.map u8 ++ ((t11.map u8 ++ (a12 :: a13 :: a14 :: a15 :: []))))) 0 (b0 :: b1 :: b2 :: b3 :: b4 :: b5 :: b6 :: b7 :: b8 :: b9 :: (s10.map u8 ++ ((s11.map u8 ++ (b12 :: b13 :: b14 :: b15 :: []))))) = b0 :: b1 :: b2 :: b3 :: b4 :: b5 :: b6 :: b7 :: b8 :: b9 :: (s10.map u8 ++ ((s11.map u8 ++ (b12 :: b13 :: b14 :: b15 :: [])))) := (spl_a (z := 78) (len_c (n := 77) (len_c (n := 76) (len_c (n := 75) (len_c (n := 74) (len_c (n := 73) (len_c (n := 72) (len_c (n := 71) (len_c (n := 70) (len_c (n := 69) (len_c (n := 68) (len_b (k := 32) (n := 36) h10 (len_b (k := 32) (n := 4) h11 (len_c (n := 3) (len_c (n := 2) (len_c (n := 1) (len_c (n := 0) len_n)))))))))))))))) (len_c (n := 77) (len_c (n := 76) (len_c (n := 75) (len_c (n := 74) (len_c (n := 73) (len_c (n := 72) (len_c (n := 71) (len_c (n := 70) (len_c (n := 69) (len_c (n := 68) (len_b (k := 32) (n := 36) g10 (len_b (k := 32) (n := 4) g11 (len_c (n := 3) (len_c (n := 2) (len_c (n := 1) (len_c (n := 0) len_n)))))))))))))))))
theorem z_field40_0 : fieldB Try.prog 40 0 = some 0 := by kernel_rfl
theorem q_ix_c10b32b32c4_0 {a0 a1 a2 a3 a4 a5 a6 a7 a8 a9 a12 a13 a14 a15 : Value} {t10 t11 : List UInt8} : (a0 :: a1 :: a2 :: a3 :: a4 :: a5 :: a6 :: a7 :: a8 :: a9 :: (t10.map u8 ++ ((t11.map u8 ++ (a12 :: a13 :: a14 :: a15 :: [])))))[0]? = some a0 := ix_0
theorem z_field40_2 : fieldB Try.prog 40 2 = some 2 := by kernel_rfl
theorem z_agg38 : aggB Try.prog 38 = some true := by kernel_rfl
theorem z_size38 : sizeB Try.prog 38 = some 76 := by kernel_rfl
theorem q_ld_c10b32b32c4_2_76 {a0 a1 a2 a3 a4 a5 a6 a7 a8 a9 a12 a13 a14 a15 : Value} {t10 t11 : List UInt8} (h10 : t10.length = 32) (h11 : t11.length = 32) : ((a0 :: a1 :: a2 :: a3 :: a4 :: a5 :: a6 :: a7 :: a8 :: a9 :: (t10.map u8 ++ ((t11.map u8 ++ (a12 :: a13 :: a14 :: a15 :: []))))).drop 2).take 76 = a2 :: a3 :: a4 :: a5 :: a6 :: a7 :: a8 :: a9 :: (t10.map u8 ++ ((t11.map u8 ++ (a12 :: a13 :: a14 :: a15 :: [])))) := (ld_c (o := 1) (ld_c (o := 0) (ld_a (len_c (n := 75) (len_c (n := 74) (len_c (n := 73) (len_c (n := 72) (len_c (n := 71) (len_c (n := 70) (len_c (n := 69) (len_c (n := 68) (len_b (k := 32) (n := 36) h10 (len_b (k := 32) (n := 4) h11 (len_c (n := 3) (len_c (n := 2) (len_c (n := 1) (len_c (n := 0) len_n)))))))))))))))))
theorem q_len_c8b32b32c4 {a0 a1 a2 a3 a4 a5 a6 a7 a10 a11 a12 a13 : Value} {t8 t9 : List UInt8} (h8 : t8.length = 32) (h9 : t9.length = 32) : (a0 :: a1 :: a2 :: a3 :: a4 :: a5 :: a6 :: a7 :: (t8.map u8 ++ ((t9.map u8 ++ (a10 :: a11 :: a12 :: a13 :: []))))).length = 76 := (len_c (n := 75) (len_c (n := 74) (len_c (n := 73) (len_c (n := 72) (len_c (n := 71) (len_c (n := 70) (len_c (n := 69) (len_c (n := 68) (len_b (k := 32) (n := 36) h8 (len_b (k := 32) (n := 4) h9 (len_c (n := 3) (len_c (n := 2) (len_c (n := 1) (len_c (n := 0) len_n))))))))))))))
theorem z_call10 : callB Try.prog 10 = true := by kernel_rfl
theorem z_zeroN38 : zeroL Try.prog 38 = some ((.int .i64 0 :: (.int .i64 0 :: (.int .i64 0 :: (.int .i64 0 :: (.string ⟨#[]⟩ :: (.bool false :: (.int .i64 0 :: (.int .i64 0 :: ((List.replicate 32 (0 : UInt8)).map u8 ++ ((List.replicate 32 (0 : UInt8)).map u8 ++ (.int .i64 0 :: (.int .i64 0 :: (.int .i64 0 :: (.int .i64 0 :: []))))))))))))))) := by kernel_rfl
theorem q_one_c8b32b32c4 {a0 a1 a2 a3 a4 a5 a6 a7 a10 a11 a12 a13 : Value} {t8 t9 : List UInt8} (o0 : a0.oneCell' = true) (o1 : a1.oneCell' = true) (o2 : a2.oneCell' = true) (o3 : a3.oneCell' = true) (o4 : a4.oneCell' = true) (o5 : a5.oneCell' = true) (o6 : a6.oneCell' = true) (o7 : a7.oneCell' = true) (o10 : a10.oneCell' = true) (o11 : a11.oneCell' = true) (o12 : a12.oneCell' = true) (o13 : a13.oneCell' = true) : (a0 :: a1 :: a2 :: a3 :: a4 :: a5 :: a6 :: a7 :: (t8.map u8 ++ ((t9.map u8 ++ (a10 :: a11 :: a12 :: a13 :: []))))).all (·.oneCell') = true := (one_c o0 (one_c o1 (one_c o2 (one_c o3 (one_c o4 (one_c o5 (one_c o6 (one_c o7 (one_b (one_b (one_c o10 (one_c o11 (one_c o12 (one_c o13 one_n))))))))))))))
theorem q_spl_c8b32b32c4_0_c8b32b32c4 {a0 a1 a2 a3 a4 a5 a6 a7 a10 a11 a12 a13 : Value} {t8 t9 : List UInt8} {b0 b1 b2 b3 b4 b5 b6 b7 b10 b11 b12 b13 : Value} {s8 s9 : List UInt8} (h8 : t8.length = 32) (h9 : t9.length = 32) (g8 : s8.length = 32) (g9 : s9.length = 32) : spl (a0 :: a1 :: a2 :: a3 :: a4 :: a5 :: a6 :: a7 :: (t8.map u8 ++ ((t9.map u8 ++ (a10 :: a11 :: a12 :: a13 :: []))))) 0 (b0 :: b1 :: b2 :: b3 :: b4 :: b5 :: b6 :: b7 :: (s8.map u8 ++ ((s9.map u8 ++ (b10 :: b11 :: b12 :: b13 :: []))))) = b0 :: b1 :: b2 :: b3 :: b4 :: b5 :: b6 :: b7 :: (s8.map u8 ++ ((s9.map u8 ++ (b10 :: b11 :: b12 :: b13 :: [])))) := (spl_a (z := 76) (len_c (n := 75) (len_c (n := 74) (len_c (n := 73) (len_c (n := 72) (len_c (n := 71) (len_c (n := 70) (len_c (n := 69) (len_c (n := 68) (len_b (k := 32) (n := 36) h8 (len_b (k := 32) (n := 4) h9 (len_c (n := 3) (len_c (n := 2) (len_c (n := 1) (len_c (n := 0) len_n)))))))))))))) (len_c (n := 75) (len_c (n := 74) (len_c (n := 73) (len_c (n := 72) (len_c (n := 71) (len_c (n := 70) (len_c (n := 69) (len_c (n := 68) (len_b (k := 32) (n := 36) g8 (len_b (k := 32) (n := 4) g9 (len_c (n := 3) (len_c (n := 2) (len_c (n := 1) (len_c (n := 0) len_n)))))))))))))))
theorem z_call11 : callB Try.prog 11 = true := by kernel_rfl
theorem q_ld_c8b32b32c4_0_76 {a0 a1 a2 a3 a4 a5 a6 a7 a10 a11 a12 a13 : Value} {t8 t9 : List UInt8} (h8 : t8.length = 32) (h9 : t9.length = 32) : ((a0 :: a1 :: a2 :: a3 :: a4 :: a5 :: a6 :: a7 :: (t8.map u8 ++ ((t9.map u8 ++ (a10 :: a11 :: a12 :: a13 :: []))))).drop 0).take 76 = a0 :: a1 :: a2 :: a3 :: a4 :: a5 :: a6 :: a7 :: (t8.map u8 ++ ((t9.map u8 ++ (a10 :: a11 :: a12 :: a13 :: [])))) := (ld_a (len_c (n := 75) (len_c (n := 74) (len_c (n := 73) (len_c (n := 72) (len_c (n := 71) (len_c (n := 70) (len_c (n := 69) (len_c (n := 68) (len_b (k := 32) (n := 36) h8 (len_b (k := 32) (n := 4) h9 (len_c (n := 3) (len_c (n := 2) (len_c (n := 1) (len_c (n := 0) len_n)))))))))))))))
theorem z_field40_1 : fieldB Try.prog 40 1 = some 1 := by kernel_rfl
theorem q_ix_c10b32b32c4_1 {a0 a1 a2 a3 a4 a5 a6 a7 a8 a9 a12 a13 a14 a15 : Value} {t10 t11 : List UInt8} : (a0 :: a1 :: a2 :: a3 :: a4 :: a5 :: a6 :: a7 :: a8 :: a9 :: (t10.map u8 ++ ((t11.map u8 ++ (a12 :: a13 :: a14 :: a15 :: [])))))[1]? = some a1 := (ix_c (o := 0) ix_0)
theorem z_call13 : callB Try.prog 13 = true := by kernel_rfl
theorem z_call14 : callB Try.prog 14 = true := by kernel_rfl
theorem z_call12 : callB Try.prog 12 = true := by kernel_rfl
theorem z_call15 : callB Try.prog 15 = true := by kernel_rfl
theorem z_call17 : callB Try.prog 17 = true := by kernel_rfl
theorem z_field38_0 : fieldB Try.prog 38 0 = some 0 := by kernel_rfl
theorem z_field36_0 : fieldB Try.prog 36 0 = some 0 := by kernel_rfl
theorem q_ix_c8b32b32c4_0 {a0 a1 a2 a3 a4 a5 a6 a7 a10 a11 a12 a13 : Value} {t8 t9 : List UInt8} : (a0 :: a1 :: a2 :: a3 :: a4 :: a5 :: a6 :: a7 :: (t8.map u8 ++ ((t9.map u8 ++ (a10 :: a11 :: a12 :: a13 :: [])))))[0]? = some a0 := ix_0
theorem z_field32_1 : fieldB Try.prog 32 1 = some 1 := by kernel_rfl
theorem z_agg30 : aggB Try.prog 30 = some false := by kernel_rfl
theorem q_ix_c2_1 {a0 a1 : Value} : (a0 :: a1 :: [])[1]? = some a1 := (ix_c (o := 0) ix_0)
theorem z_call18 : callB Try.prog 18 = true := by kernel_rfl
theorem z_call19 : callB Try.prog 19 = true := by kernel_rfl

set_option maxRecDepth 100000 in
set_option maxHeartbeats 8000000 in
theorem poolDoes1 (size : Int) (h1 : 1 ≤ size ∧ size ≤ 256) (l : List Pool.Act) (A : Option Addr) (ca : Nat) (hl0 : l.length ≤ 9223372036854775807) (wl : ∀ z ∈ l, Pool.Act.Wf z) (ns : List Int) (B : Option Addr) (cb : Nat) (hn0 : ns.length ≤ 9223372036854775807) {w : World} (hA : Rd w A (Pool.acs l)) (hB : Rd w B (ns.map i64)) : Calls Try.prog 3 #[.int .i64 size, .slice A l.length ca, .slice B ns.length cb] w (Gives (.bool true) [] w) := by
  have lz32 : (List.replicate 32 (0 : UInt8)).length = 32 := List.length_replicate
  refine enterL (args := [.int .i64 size, .slice A l.length ca, .slice B ns.length cb]) Try.func3 rfl rfl (l := []) (Sep.refl _) ?_
  intro a0 H0
  refine wp_seq ?_
  refine reg ?_
  refine plain (y_assign rfl rfl) rfl rfl rfl H0 ?_
  clear H0; intro a1 H1
  refine fin ?_
  refine then_n ?_
  refine wp_seq ?_
  refine reg ?_
  refine plain (y_move rfl rfl) rfl rfl rfl H1 ?_
  clear H1; intro a2 H2
  refine st_call rfl z_call8 rfl rfl rfl rfl H2 (pnew size h1 _) ?_
  clear H2; intro v3 l3 a3 wx3 hf3 H3
  obtain ⟨bp, rfl, rfl⟩ := hf3
  simp only [List.cons_append, List.nil_append] at H3
  refine plain (y_move rfl rfl) rfl rfl rfl H3 ?_
  clear H3; intro a4 H4
  refine plain (y_extract rfl rfl rfl) rfl rfl rfl H4 ?_
  clear H4; intro a5 H5
  refine plain (y_extract rfl rfl rfl) rfl rfl rfl H5 ?_
  clear H5; intro a6 H6
  refine plain (y_assign rfl rfl) rfl rfl rfl H6 ?_
  clear H6; intro a7 H7
  refine plain (y_assign rfl rfl) rfl rfl rfl H7 ?_
  clear H7; intro a8 H8
  refine fin ?_
  refine then_n ?_
  refine wp_seq ?_
  refine wp_seq ?_
  refine reg ?_
  refine plain (y_move rfl rfl) rfl rfl rfl H8 ?_
  clear H8; intro a9 H9
  refine plain (y_eql rfl rfl rfl) rfl rfl rfl H9 ?_
  clear H9; intro a10 H10
  refine plain (y_move rfl rfl) rfl rfl rfl H10 ?_
  clear H10; intro a11 H11
  refine plain (y_lss rfl rfl rfl) rfl rfl rfl H11 ?_
  clear H11; intro a12 H12
  refine plain (y_move rfl rfl) rfl rfl rfl H12 ?_
  clear H12; intro a13 H13
  have H15 := H13.know (d := 33) (v := .bool false) rfl (congrArg Value.bool (by first | exact decide_eq_false (by omega) | rfl | (simp; done) | (simp; omega)))
  clear H13
  refine plain (y_move rfl rfl) rfl rfl rfl H15 ?_
  clear H15; intro a16 H16
  refine plain (y_gtr rfl rfl rfl) rfl rfl rfl H16 ?_
  clear H16; intro a17 H17
  refine plain (y_pick_f rfl rfl rfl) rfl rfl rfl H17 ?_
  clear H17; intro a18 H18
  refine plain (y_bneq rfl Try.underlying4 rfl rfl) rfl rfl rfl H18 ?_
  clear H18; intro a19 H19
  refine plain (y_move rfl rfl) rfl rfl rfl H19 ?_
  clear H19; intro a20 H20
  have H22 := H20.know (d := 38) (v := .bool false) rfl (congrArg Value.bool (by first | fail | rfl | (simp; done) | (simp; omega)))
  clear H20
  refine plain (y_move rfl rfl) rfl rfl rfl H22 ?_
  clear H22; intro a23 H23
  refine plain (y_peql rfl Try.underlying24 rfl rfl) rfl rfl rfl H23 ?_
  clear H23; intro a24 H24
  refine plain (y_move rfl rfl) rfl rfl rfl H24 ?_
  clear H24; intro a25 H25
  refine plain (y_neq rfl rfl rfl) rfl rfl rfl H25 ?_
  clear H25; intro a26 H26
  refine plain (y_bneq rfl Try.underlying4 rfl rfl) rfl rfl rfl H26 ?_
  clear H26; intro a27 H27
  refine plain (y_pick_f rfl rfl rfl) rfl rfl rfl H27 ?_
  clear H27; intro a28 H28
  refine plain (y_move rfl rfl) rfl rfl rfl H28 ?_
  clear H28; intro a29 H29
  have H31 := H29.know (d := 45) (v := .bool false) rfl (congrArg Value.bool (by first | fail | rfl | (simp; done) | (simp; omega)))
  clear H29
  refine st_callg rfl z_call9 rfl rfl rfl rfl H31 (pawake _) ?_
  clear H31; intro a32 wx32 H32
  refine plain (y_not rfl rfl) rfl rfl rfl H32 ?_
  clear H32; intro a33 H33
  refine plain (y_pick_f rfl rfl rfl) rfl rfl rfl H33 ?_
  clear H33; intro a34 H34
  refine fin ?_
  refine then_n ?_
  refine cnd_f H34 rfl ?_
  refine wp_skip ?_
  refine then_n ?_
  refine wp_seq ?_
  refine wp_seq ?_
  refine reg ?_
  refine plain (y_move rfl rfl) rfl rfl rfl H34 ?_
  clear H34; intro a36 H36
  refine plain (y_peql rfl Try.underlying24 rfl rfl) rfl rfl rfl H36 ?_
  clear H36; intro a37 H37
  refine fin ?_
  refine then_n ?_
  refine cnd_f H37 rfl ?_
  refine wp_skip ?_
  refine then_n ?_
  refine wp_seq ?_
  refine reg ?_
  refine plain (y_move rfl rfl) rfl rfl rfl H37 ?_
  clear H37; intro a39 H39
  refine plain (y_build rfl z_zeroN32 z_places32 rfl (lay_1 (off := 0) (n := 2) rfl q_len_c2 (by decide) q_spl_c2_0_c1 lay_n (by rfl))) rfl rfl rfl H39 ?_
  clear H39; intro a40 H40
  refine st_box rfl rfl (agg_cells _) rfl rfl rfl H40 ?_
  clear H40; intro b41 a41 wx41 H41
  refine plain (y_assign rfl rfl) rfl rfl rfl H41 ?_
  clear H41; intro a42 H42
  refine fin ?_
  refine then_n ?_
  refine wp_seq ?_
  refine reg ?_
  refine st_make rfl z_slice23 rfl rfl (by decide) (by decide) z_zval3 rfl rfl rfl H42 ?_
  clear H42; intro b43 a43 wx43 H43
  refine st_alloc rfl z_zeroN23 rfl rfl rfl H43 ?_
  clear H43; intro b44 a44 wx44 H44
  refine st_store1N rfl z_size23 rfl rfl rfl (by repeat (first | exact Uh | apply Ut)) q_len_c1 q_set_c1_0 (by decide) rfl rfl H44 ?_
  clear H44; intro wx45 H45
  refine fin ?_
  refine then_n ?_
  refine wp_seq ?_
  refine wp_seq ?_
  refine reg ?_
  refine plain (y_assign rfl rfl) rfl rfl rfl H45 ?_
  clear H45; intro a46 H46
  refine fin ?_
  refine then_n ?_
  refine wp_cut (fun aC wC => ∃ nxs : List Int, nxs.length = 64 ∧ St Try.f3.ntmps [] w ([(1, .slice A l.length ca), (7, .pointer (some ⟨bp, 0, none⟩)), (9, .pointer (some ⟨b41, 0, none⟩)), (10, .pointer (some ⟨b44, 0, none⟩))]) ([It.blk b44 23 [.slice (some ⟨b43, 0, none⟩) 64 64], It.blk b43 3 (nxs.map i64), It.blk b41 32 [i64 size, (.slice none 0 0)], It.row 38 76 (.slice none 0 0) ([] : List Pool.Wait).length (Pool.wc ([] : List Pool.Wait)), It.blk bp 63 [i64 size, (.slice none 0 0)]]) aC wC) ?_ ?_
  · skip
    refine wp_block ?_
    refine loop (ι := Nat) (fun k => [(1, .slice A l.length ca), (7, .pointer (some ⟨bp, 0, none⟩)), (9, .pointer (some ⟨b41, 0, none⟩)), (10, .pointer (some ⟨b44, 0, none⟩)), (2, .slice B ns.length cb), (11, .int .i64 (k : Int))]) (fun k => [It.blk b44 23 [.slice (some ⟨b43, 0, none⟩) 64 64], It.blk b43 3 ((Pool.nx0 ns k).map i64), It.blk b41 32 [i64 size, (.slice none 0 0)], It.row 38 76 (.slice none 0 0) ([] : List Pool.Wait).length (Pool.wc ([] : List Pool.Wait)), It.blk bp 63 [i64 size, (.slice none 0 0)]]) (fun k => k ≤ ns.length ∧ k ≤ 64) (fun k => 64 - k) (0) ⟨Nat.zero_le _, Nat.zero_le _⟩ (H46.weak ⟨rfl, rfl, rfl, rfl, rfl, rfl, trivial⟩ (by rw [Pool.nx0_0, made_i64]; rfl)) ?_
    clear H46; intro k a47 wx47 hok47 H47
    have hok := hok47
    refine wp_seq ?_
    refine wp_seq ?_
    refine reg ?_
    refine plain (y_move rfl rfl) rfl rfl rfl H47 ?_
    clear H47; intro a48 H48
    refine plain (y_move rfl rfl) rfl rfl rfl H48 ?_
    clear H48; intro a49 H49
    refine plain (y_len rfl Try.underlying23 rfl) rfl rfl rfl H49 ?_
    clear H49; intro a50 H50
    refine plain (y_lss rfl rfl rfl) rfl rfl rfl H50 ?_
    clear H50; intro a51 H51
    refine plain (y_move rfl rfl) rfl rfl rfl H51 ?_
    clear H51; intro a52 H52
    refine Sx.part (d := 59) H52 rfl (fun hg53 => ?_) (fun hg53 => ?_)
    · first
      | fail
      | skip
        clear H52; intro H54
        try simp only [decide_eq_true_eq, decide_eq_false_iff_not, Bool.not_eq_true', Bool.not_eq_false', Bool.and_eq_true, Bool.not_eq_true, Bool.not_eq_false] at hg53
        refine plain (y_move rfl rfl) rfl rfl rfl H54 ?_
        clear H54; intro a55 H55
        refine plain (y_loadB rfl z_agg23 rfl (by repeat (first | exact Mh | apply Mt)) q_ix_c1_0) rfl rfl rfl H55 ?_
        clear H55; intro a56 H56
        refine plain (y_len rfl Try.underlying23 rfl) rfl rfl rfl H56 ?_
        clear H56; intro a57 H57
        refine plain (y_lss rfl rfl rfl) rfl rfl rfl H57 ?_
        clear H57; intro a58 H58
        refine plain (y_pick_t rfl rfl rfl) rfl rfl rfl H58 ?_
        clear H58; intro a59 H59
        refine fin ?_
        refine then_n ?_
        refine cnd H59 rfl (fun hc60 => ?_) (fun hc60 => ?_) -- cond 3
        · skip
          try simp only [decide_eq_true_eq, decide_eq_false_iff_not, Bool.not_eq_true', Bool.not_eq_false', Bool.and_eq_true, Bool.not_eq_true, Bool.not_eq_false] at hc60
          refine wp_skip ?_
          refine then_n ?_
          refine wp_seq ?_
          refine wp_block ?_
          refine hreg [It.blk b44 23 [.slice (some ⟨b43, 0, none⟩) 64 64]] (fun _ h => (h.sub (by first | exact S0 | exact S1 | repeat (first | exact S1 | exact S0 | apply S2 | apply S3)))) (by kernel_rfl) H59 ?_
          clear H59; intro wx61 H61
          refine htake 0 rfl (by kernel_rfl) (y_loadB rfl z_agg23 rfl (by repeat (first | exact Mh | apply Mt)) q_ix_c1_0) rfl rfl rfl (fun _ h => (h.sub (by first | exact S0 | exact S1 | repeat (first | exact S1 | exact S0 | apply S2 | apply S3)))) H61 ?_
          clear H61; intro a62 H62
          refine htake 1 rfl (by kernel_rfl) (y_move rfl rfl) rfl rfl rfl (fun _ h => (h.sub (by first | exact S0 | exact S1 | repeat (first | exact S1 | exact S0 | apply S2 | apply S3)))) H62 ?_
          clear H62; intro a63 H63
          refine htake 2 rfl (by kernel_rfl) (y_move rfl rfl) rfl rfl rfl (fun _ h => (h.sub (by first | exact S0 | exact S1 | repeat (first | exact S1 | exact S0 | apply S2 | apply S3)))) H63 ?_
          clear H63; intro a64 H64
          refine htake 3 rfl (by kernel_rfl) (y_move rfl rfl) rfl rfl rfl (fun _ h => (h.sub (by first | exact S0 | exact S1 | repeat (first | exact S1 | exact S0 | apply S2 | apply S3)))) H64 ?_
          clear H64; intro a65 H65
          refine htake 4 rfl (by kernel_rfl) (y_ixR rfl Try.underlying23 z_size3 rfl rfl (by omega) (by omega) (rd_old hB (by simp)) (by first | (rw [Pool.acs_len wl]; omega) | (rw [List.length_map]; omega))) rfl rfl rfl (fun _ h => (h.sub (by first | exact S0 | exact S1 | repeat (first | exact S1 | exact S0 | apply S2 | apply S3)))) H65 ?_
          clear H65; intro a66 H66
          refine htake 5 rfl (by kernel_rfl) (y_loadR rfl z_agg3 rfl (rd_old hB (by simp)) (by rw [Nat.mul_one]; exact i64_get ns (k : Int).toNat (by omega))) rfl rfl rfl (fun _ h => (h.sub (by first | exact S0 | exact S1 | repeat (first | exact S1 | exact S0 | apply S2 | apply S3)))) H66 ?_
          clear H66; intro a67 H67
          refine htake 6 rfl (by kernel_rfl) (y_ixL rfl Try.underlying23 z_size3 rfl rfl (by omega) (by omega) rfl) rfl rfl rfl (fun _ h => (h.sub (by first | exact S0 | exact S1 | repeat (first | exact S1 | exact S0 | apply S2 | apply S3)))) H67 ?_
          clear H67; intro a68 H68
          refine hgo 7 rfl (by kernel_rfl) ?_
          refine st_store1 rfl z_size3 rfl rfl rfl (by repeat (first | exact Uh | apply Ut)) (by rw [List.length_map, Pool.nx0_len (by omega) (by omega)]; omega) rfl rfl H68 ?_
          clear H68; intro wx69 H69
          refine hfinA H69.sep ?_
          refine hdone (by kernel_rfl) ?_
          refine inb_n ?_
          refine then_n ?_
          refine reg ?_
          refine plain (y_move rfl rfl) rfl rfl rfl H69 ?_
          clear H69; intro a70 H70
          refine plain (y_add rfl rfl rfl (by first | exact w64 (by omega) (by omega) | rfl)) rfl rfl rfl H70 ?_
          clear H70; intro a71 H71
          refine plain (y_assign rfl rfl) rfl rfl rfl H71 ?_
          clear H71; intro a72 H72
          refine fin ?_
          refine then_n ?_
          refine ⟨k + 1, by omega, by omega, H72.weak ⟨rfl, rfl, rfl, rfl, rfl, fi rfl (by omega), trivial⟩ (ib2 rfl (ib (by rw [← Pool.nx0_next (by omega) (by omega)]; exact i64_set _ (k : Int) _)))⟩
        · skip
          try simp only [decide_eq_true_eq, decide_eq_false_iff_not, Bool.not_eq_true', Bool.not_eq_false', Bool.and_eq_true, Bool.not_eq_true, Bool.not_eq_false] at hc60
          refine wp_exit ?_
          refine then_x ?_
          refine then_x ?_
          refine inb_hit ?_
          refine cut_n ?_
          exact ⟨Pool.nx0 ns k, Pool.nx0_len (by omega) (by omega), H59.weak ⟨rfl, rfl, rfl, rfl, trivial⟩ rfl⟩
    · first
      | fail
      | skip
        clear H52; intro H73
        try simp only [decide_eq_true_eq, decide_eq_false_iff_not, Bool.not_eq_true', Bool.not_eq_false', Bool.and_eq_true, Bool.not_eq_true, Bool.not_eq_false] at hg53
        refine skip rfl rfl rfl H73 ?_
        clear H73; intro a74 H74
        refine skip rfl rfl rfl H74 ?_
        clear H74; intro a75 H75
        refine skip rfl rfl rfl H75 ?_
        clear H75; intro a76 H76
        refine skip rfl rfl rfl H76 ?_
        clear H76; intro a77 H77
        refine plain (y_pick_f rfl rfl rfl) rfl rfl rfl H77 ?_
        clear H77; intro a78 H78
        refine fin ?_
        refine then_n ?_
        refine cnd_f H78 rfl ?_
        refine wp_exit ?_
        refine then_x ?_
        refine then_x ?_
        refine inb_hit ?_
        refine cut_n ?_
        exact ⟨Pool.nx0 ns k, Pool.nx0_len (by omega) (by omega), H78.weak ⟨rfl, rfl, rfl, rfl, trivial⟩ rfl⟩
  · clear H46; intro a80 wx80 hI80
    obtain ⟨nxs, hn64, H80⟩ := hI80
    refine then_n ?_
    refine wp_seq ?_
    refine wp_seq ?_
    refine reg ?_
    refine plain (y_assign rfl rfl) rfl rfl rfl H80 ?_
    clear H80; intro a81 H81
    refine fin ?_
    refine then_n ?_
    refine wp_block ?_
    replace H81 := (rot (rot H81)).nilRow 38 76
    refine loop (ι := Nat × (List Pool.Wait × (List Int × (Value × Value)))) (fun y => [(1, .slice A l.length ca), (7, .pointer (some ⟨bp, 0, none⟩)), (9, .pointer (some ⟨b41, 0, none⟩)), (10, .pointer (some ⟨b44, 0, none⟩)), (12, .int .i64 (y.1 : Int))]) (fun y => [It.row 38 76 y.2.2.2.2 y.2.1.length (Pool.wc y.2.1), It.blk b41 32 [i64 size, y.2.2.2.2], It.row 38 76 y.2.2.2.1 y.2.1.length (Pool.wc y.2.1), It.blk bp 63 [i64 size, y.2.2.2.1], It.blk b44 23 [.slice (some ⟨b43, 0, none⟩) 64 64], It.blk b43 3 (y.2.2.1.map i64)]) (fun y => y.1 ≤ 100 ∧ Pool.Good ⟨size, y.2.1⟩ ∧ Pool.Wfs y.2.1 ∧ y.2.2.1.length = 64) (fun y => 100 - y.1) ((0, (([] : List Pool.Wait), (nxs, ((.slice none 0 0 : Value), (.slice none 0 0 : Value)))))) ⟨Nat.zero_le _, Pool.good_new h1, Pool.wf_nil, hn64⟩ (H81.weak ⟨rfl, rfl, rfl, rfl, rfl, trivial⟩ rfl) ?_
    clear H81; intro y a82 wx82 hok82 H82
    obtain ⟨k, L, nx, v, vx⟩ := y
    dsimp only at hok82 H82
    obtain ⟨hk, hg, hL, h64⟩ := hok82
    have hlen : L.length ≤ 1000 := by have := hg.few; omega
    refine wp_seq ?_
    refine wp_seq ?_
    refine reg ?_
    refine plain (y_move rfl rfl) rfl rfl rfl H82 ?_
    clear H82; intro a83 H83
    refine plain (y_move rfl rfl) rfl rfl rfl H83 ?_
    clear H83; intro a84 H84
    refine plain (y_len rfl Try.underlying22 rfl) rfl rfl rfl H84 ?_
    clear H84; intro a85 H85
    refine plain (y_lss rfl rfl rfl) rfl rfl rfl H85 ?_
    clear H85; intro a86 H86
    refine plain (y_move rfl rfl) rfl rfl rfl H86 ?_
    clear H86; intro a87 H87
    refine Sx.part (d := 78) H87 rfl (fun hg88 => ?_) (fun hg88 => ?_)
    · first
      | fail
      | skip
        clear H87; intro H89
        try simp only [decide_eq_true_eq, decide_eq_false_iff_not, Bool.not_eq_true', Bool.not_eq_false', Bool.and_eq_true, Bool.not_eq_true, Bool.not_eq_false] at hg88
        refine plain (y_move rfl rfl) rfl rfl rfl H89 ?_
        clear H89; intro a90 H90
        refine plain (y_lss rfl rfl rfl) rfl rfl rfl H90 ?_
        clear H90; intro a91 H91
        refine plain (y_pick_t rfl rfl rfl) rfl rfl rfl H91 ?_
        clear H91; intro a92 H92
        refine fin ?_
        refine then_n ?_
        refine cnd H92 rfl (fun hc93 => ?_) (fun hc93 => ?_) -- cond 5
        · skip
          try simp only [decide_eq_true_eq, decide_eq_false_iff_not, Bool.not_eq_true', Bool.not_eq_false', Bool.and_eq_true, Bool.not_eq_true, Bool.not_eq_false] at hc93
          refine wp_skip ?_
          refine then_n ?_
          refine wp_seq ?_
          refine wp_block ?_
          refine wp_seq ?_
          have hkl : k < l.length := by omega
          have wc := Pool.actD wl hkl
          have whd := wc.w.tx.hand
          have wtg := wc.w.tx.tag
          refine reg ?_
          refine plain (y_move rfl rfl) rfl rfl rfl H92 ?_
          clear H92; intro a94 H94
          refine plain (y_move rfl rfl) rfl rfl rfl H94 ?_
          clear H94; intro a95 H95
          refine plain (y_ixR rfl Try.underlying22 z_size40 rfl rfl (by omega) (by omega) (rd_old hA (by simp)) (by first | (rw [Pool.acs_len wl]; omega) | (rw [List.length_map]; omega))) rfl rfl rfl H95 ?_
          clear H95; intro a96 H96
          refine plain (y_loadAS rfl z_agg40 z_size40 rfl (rd_old hA (by simp)) (show _ = Pool.Act.cells (l.getD k Pool.Act.zero) from Pool.acs_take wl k (by omega)) wc.len (by decide)) rfl rfl rfl H96 ?_
          clear H96; intro a97 H97
          refine st_alloc rfl z_zeroN40 rfl rfl rfl H97 ?_
          clear H97; intro b98 a98 wx98 H98
          refine st_storeN rfl z_size40 rfl rfl (agg_cells _) (by repeat (first | exact Uh | apply Ut)) (q_one_c10b32b32c4 rfl rfl rfl rfl rfl rfl rfl rfl rfl rfl rfl rfl rfl rfl) (q_len_c10b32b32c4 (by assumption) (by assumption)) (q_len_c10b32b32c4 (by assumption) (by assumption)) (q_spl_c10b32b32c4_0_c10b32b32c4 (by assumption) (by assumption) (by assumption) (by assumption)) (by decide) rfl rfl H98 ?_
          clear H98; intro wx99 H99
          refine fin ?_
          refine then_n ?_
          refine wp_seq ?_
          refine wp_seq ?_
          refine reg ?_
          refine plain (y_fieldB rfl z_field40_0 rfl (by first | (simp only [Nat.zero_add, Nat.add_zero, Nat.reduceAdd]; rfl) | rfl)) rfl rfl rfl H99 ?_
          clear H99; intro a100 H100
          refine plain (y_loadB rfl z_agg3 rfl (by repeat (first | exact Mh | apply Mt)) q_ix_c10b32b32c4_0) rfl rfl rfl H100 ?_
          clear H100; intro a101 H101
          refine fin ?_
          refine then_n ?_
          refine wp_cut (fun aC wC => ∃ (L1 : List Pool.Wait) (nx1 : List Int) (v1 vx1 : Value), (Pool.Good ⟨size, L1⟩ ∧ Pool.Wfs L1 ∧ nx1.length = 64) ∧ St Try.f3.ntmps [] w ([(1, .slice A l.length ca), (7, .pointer (some ⟨bp, 0, none⟩)), (9, .pointer (some ⟨b41, 0, none⟩)), (10, .pointer (some ⟨b44, 0, none⟩)), (12, .int .i64 (k : Int))]) ([It.row 38 76 vx1 L1.length (Pool.wc L1), It.blk b41 32 [i64 size, vx1], It.row 38 76 v1 L1.length (Pool.wc L1), It.blk bp 63 [i64 size, v1], It.blk b44 23 [.slice (some ⟨b43, 0, none⟩) 64 64], It.blk b43 3 (nx1.map i64)]) aC wC) ?_ ?_
          · skip
            refine wp_block ?_
            refine wp_seq ?_
            refine wp_seq ?_
            refine reg ?_
            refine plain (y_eql rfl rfl rfl) rfl rfl rfl H101 ?_
            clear H101; intro a102 H102
            refine plain (y_assign rfl rfl) rfl rfl rfl H102 ?_
            clear H102; intro a103 H103
            refine fin ?_
            refine then_n ?_
            refine cnd H103 rfl (fun hc104 => ?_) (fun hc104 => ?_) -- cond 6
            · skip
              try simp only [decide_eq_true_eq, decide_eq_false_iff_not, Bool.not_eq_true', Bool.not_eq_false', Bool.and_eq_true, Bool.not_eq_true, Bool.not_eq_false] at hc104
              have hk0 := hc104
              refine wp_skip ?_
              refine then_n ?_
              refine cnd H103 rfl (fun hc105 => ?_) (fun hc105 => ?_) -- cond 7
              · skip
                try simp only [decide_eq_true_eq, decide_eq_false_iff_not, Bool.not_eq_true', Bool.not_eq_false', Bool.and_eq_true, Bool.not_eq_true, Bool.not_eq_false] at hc105
                refine wp_seq ?_
                have hpw := Pool.put_wf (p := ⟨size, L⟩) hL wc.w
                have hq1 := hpw.2.tx.hand
                have hq2 := hpw.2.tx.tag
                refine reg ?_
                refine plain (y_move rfl rfl) rfl rfl rfl H103 ?_
                clear H103; intro a106 H106
                refine plain (y_fieldB rfl z_field40_2 rfl (by first | (simp only [Nat.zero_add, Nat.add_zero, Nat.reduceAdd]; rfl) | rfl)) rfl rfl rfl H106 ?_
                clear H106; intro a107 H107
                refine plain (y_loadAB rfl z_agg38 z_size38 rfl (by repeat (first | exact Mh | apply Mt)) (q_ld_c10b32b32c4_2_76 (by assumption) (by assumption)) (q_len_c8b32b32c4 (by assumption) (by assumption))) rfl rfl rfl H107 ?_
                clear H107; intro a108 H108
                refine st_callk2 (is := [It.row 38 76 v L.length (Pool.wc L), It.blk bp 63 [i64 size, v]]) (enters_call rfl z_call10 rfl) rfl rfl rfl H108 (.cons (by repeat (first | exact Ph | apply Pt)) (.cons (by repeat (first | exact Ph | apply Pt)) (.nil _))) (fun hs => pput L hL size bp v hlen hg (l.getD k Pool.Act.zero).w wc.w hs) ?_
                clear H108; intro v109 l109 a109 wx109 hf109 H109
                obtain ⟨rfl, v1, rfl⟩ := hf109
                simp only [List.cons_append, List.nil_append] at H109
                refine plain (y_move rfl rfl) rfl rfl rfl H109 ?_
                clear H109; intro a110 H110
                refine plain (y_extract rfl rfl rfl) rfl rfl rfl H110 ?_
                clear H110; intro a111 H111
                refine plain (y_extract rfl rfl rfl) rfl rfl rfl H111 ?_
                clear H111; intro a112 H112
                refine plain (y_extract rfl rfl rfl) rfl rfl rfl H112 ?_
                clear H112; intro a113 H113
                refine st_alloc rfl z_zeroN38 rfl rfl rfl H113 ?_
                clear H113; intro b114 a114 wx114 H114
                refine st_storeN rfl z_size38 rfl rfl (agg_cells _) (by repeat (first | exact Uh | apply Ut)) (q_one_c8b32b32c4 rfl rfl rfl rfl rfl rfl rfl rfl rfl rfl rfl rfl) (q_len_c8b32b32c4 (by assumption) (by assumption)) (q_len_c8b32b32c4 (by assumption) (by assumption)) (q_spl_c8b32b32c4_0_c8b32b32c4 (by assumption) (by assumption) (by assumption) (by assumption)) (by decide) rfl rfl H114 ?_
                clear H114; intro wx115 H115
                refine plain (y_assign rfl rfl) rfl rfl rfl H115 ?_
                clear H115; intro a116 H116
                refine plain (y_assign rfl rfl) rfl rfl rfl H116 ?_
                clear H116; intro a117 H117
                refine fin ?_
                refine then_n ?_
                refine wp_seq ?_
                refine reg ?_
                refine plain (y_move rfl rfl) rfl rfl rfl H117 ?_
                clear H117; intro a118 H118
                refine plain (y_fieldB rfl z_field40_2 rfl (by first | (simp only [Nat.zero_add, Nat.add_zero, Nat.reduceAdd]; rfl) | rfl)) rfl rfl rfl H118 ?_
                clear H118; intro a119 H119
                refine plain (y_loadAB rfl z_agg38 z_size38 rfl (by repeat (first | exact Mh | apply Mt)) (q_ld_c10b32b32c4_2_76 (by assumption) (by assumption)) (q_len_c8b32b32c4 (by assumption) (by assumption))) rfl rfl rfl H119 ?_
                clear H119; intro a120 H120
                refine st_callk2 (is := [It.row 38 76 vx L.length (Pool.wc L), It.blk b41 32 [i64 size, vx]]) (enters_call rfl z_call11 rfl) rfl rfl rfl H120 (.cons (by repeat (first | exact Ph | apply Pt)) (.cons (by repeat (first | exact Ph | apply Pt)) (.nil _))) (fun hs => xput L hL size b41 vx hlen hg (l.getD k Pool.Act.zero).w wc.w hs) ?_
                clear H120; intro v121 l121 a121 wx121 hf121 H121
                obtain ⟨rfl, vx1, rfl⟩ := hf121
                simp only [List.cons_append, List.nil_append] at H121
                refine plain (y_move rfl rfl) rfl rfl rfl H121 ?_
                clear H121; intro a122 H122
                refine plain (y_extract rfl rfl rfl) rfl rfl rfl H122 ?_
                clear H122; intro a123 H123
                refine plain (y_extract rfl rfl rfl) rfl rfl rfl H123 ?_
                clear H123; intro a124 H124
                refine plain (y_extract rfl rfl rfl) rfl rfl rfl H124 ?_
                clear H124; intro a125 H125
                refine st_alloc rfl z_zeroN38 rfl rfl rfl H125 ?_
                clear H125; intro b126 a126 wx126 H126
                refine st_storeN rfl z_size38 rfl rfl (agg_cells _) (by repeat (first | exact Uh | apply Ut)) (q_one_c8b32b32c4 rfl rfl rfl rfl rfl rfl rfl rfl rfl rfl rfl rfl) (q_len_c8b32b32c4 (by assumption) (by assumption)) (q_len_c8b32b32c4 (by assumption) (by assumption)) (q_spl_c8b32b32c4_0_c8b32b32c4 (by assumption) (by assumption) (by assumption) (by assumption)) (by decide) rfl rfl H126 ?_
                clear H126; intro wx127 H127
                refine plain (y_assign rfl rfl) rfl rfl rfl H127 ?_
                clear H127; intro a128 H128
                refine plain (y_assign rfl rfl) rfl rfl rfl H128 ?_
                clear H128; intro a129 H129
                refine fin ?_
                refine then_n ?_
                refine wp_seq ?_
                refine reg ?_
                refine plain (y_loadAB rfl z_agg38 z_size38 rfl (by repeat (first | exact Mh | apply Mt)) (q_ld_c8b32b32c4_0_76 (by assumption) (by assumption)) (q_len_c8b32b32c4 (by assumption) (by assumption))) rfl rfl rfl H129 ?_
                clear H129; intro a130 H130
                refine plain (y_loadAB rfl z_agg38 z_size38 rfl (by repeat (first | exact Mh | apply Mt)) (q_ld_c8b32b32c4_0_76 (by assumption) (by assumption)) (q_len_c8b32b32c4 (by assumption) (by assumption))) rfl rfl rfl H130 ?_
                clear H130; intro a131 H131
                refine plain (y_tneq rfl (by kernel_rfl) rfl rfl (eqr_Wait (Pool.put ⟨size, L⟩ (l.getD k Pool.Act.zero).w).2.1 (Pool.put ⟨size, L⟩ (l.getD k Pool.Act.zero).w).2.1 hq1 hq1 hq2 hq2)) rfl rfl rfl H131 ?_
                clear H131; intro a132 H132
                refine plain (y_move rfl rfl) rfl rfl rfl H132 ?_
                clear H132; intro a133 H133
                have H135 := H133.know (d := 146) (v := .bool false) rfl (congrArg Value.bool (by first | exact decide_eq_false (fun z => z rfl) | rfl | (simp; done) | (simp; omega)))
                clear H133
                refine plain (y_move rfl rfl) rfl rfl rfl H135 ?_
                clear H135; intro a136 H136
                refine plain (y_move rfl rfl) rfl rfl rfl H136 ?_
                clear H136; intro a137 H137
                refine plain (y_bneq rfl Try.underlying4 rfl rfl) rfl rfl rfl H137 ?_
                clear H137; intro a138 H138
                refine plain (y_pick_f rfl rfl rfl) rfl rfl rfl H138 ?_
                clear H138; intro a139 H139
                refine plain (y_move rfl rfl) rfl rfl rfl H139 ?_
                clear H139; intro a140 H140
                have H142 := H140.know (d := 151) (v := .bool false) rfl (congrArg Value.bool (by first | fail | rfl | (simp; done) | (simp; omega)))
                clear H140
                refine plain (y_move rfl rfl) rfl rfl rfl H142 ?_
                clear H142; intro a143 H143
                refine plain (y_move rfl rfl) rfl rfl rfl H143 ?_
                clear H143; intro a144 H144
                refine plain (y_neq rfl rfl rfl) rfl rfl rfl H144 ?_
                clear H144; intro a145 H145
                refine plain (y_pick_f rfl rfl rfl) rfl rfl rfl H145 ?_
                clear H145; intro a146 H146
                refine fin ?_
                refine then_n ?_
                refine cnd H146 rfl (fun hc147 => ?_) (fun hc147 => ?_) -- cond 8
                · (try simp only [decide_eq_true_eq, decide_eq_false_iff_not, Bool.not_eq_true', Bool.not_eq_false', Bool.and_eq_true, Bool.not_eq_true, Bool.not_eq_false] at hc147); (exfalso; simp at hc147)
                · skip
                  try simp only [decide_eq_true_eq, decide_eq_false_iff_not, Bool.not_eq_true', Bool.not_eq_false', Bool.and_eq_true, Bool.not_eq_true, Bool.not_eq_false] at hc147
                  refine wp_skip ?_
                  refine inb_n ?_
                  refine cut_n ?_
                  first | (have hz := hn; have hbb : (nx.map i64).set (0 + (Pool.next ⟨size, L⟩ nx (l.getD k Pool.Act.zero).n).2.1.tx.src.toNat * 1) (.int .i64 (nx.getD (Pool.next ⟨size, L⟩ nx (l.getD k Pool.Act.zero).n).2.1.tx.src.toNat 0 + 1)) = (Pool.bump nx (Pool.next ⟨size, L⟩ nx (l.getD k Pool.Act.zero).n).2.1).map i64 := i64_set _ _ _; rw [hbb] at H146; exact ⟨(Pool.next ⟨size, L⟩ nx (l.getD k Pool.Act.zero).n).1.L, (Pool.bump nx (Pool.next ⟨size, L⟩ nx (l.getD k Pool.Act.zero).n).2.1), v1, vx1, ⟨hg.next' nx _, hpw.1, by rw [Pool.bump_len]; exact h64⟩, (H146.only (is := [It.row 38 76 vx1 (Pool.next ⟨size, L⟩ nx (l.getD k Pool.Act.zero).n).1.L.length (Pool.wc (Pool.next ⟨size, L⟩ nx (l.getD k Pool.Act.zero).n).1.L), It.blk b41 32 [i64 size, vx1], It.row 38 76 v1 (Pool.next ⟨size, L⟩ nx (l.getD k Pool.Act.zero).n).1.L.length (Pool.wc (Pool.next ⟨size, L⟩ nx (l.getD k Pool.Act.zero).n).1.L), It.blk bp 63 [i64 size, v1], It.blk b44 23 [.slice (some ⟨b43, 0, none⟩) 64 64], It.blk b43 3 ((Pool.bump nx (Pool.next ⟨size, L⟩ nx (l.getD k Pool.Act.zero).n).2.1).map i64)]) (.cons (by repeat (first | exact Ph | apply Pt)) (.cons (by repeat (first | exact Ph | apply Pt)) (.cons (by repeat (first | exact Ph | apply Pt)) (.cons (by repeat (first | exact Ph | apply Pt)) (.cons (by repeat (first | exact Ph | apply Pt)) (.cons (by repeat (first | exact Ph | apply Pt)) (.nil _)))))))).weak ⟨rfl, rfl, rfl, rfl, rfl, trivial⟩ rfl⟩) | (have hz := hno; exact ⟨(Pool.next ⟨size, L⟩ nx (l.getD k Pool.Act.zero).n).1.L, nx, v1, vx1, ⟨hg.next' nx _, hpw.1, h64⟩, (H146.only (is := [It.row 38 76 vx1 (Pool.next ⟨size, L⟩ nx (l.getD k Pool.Act.zero).n).1.L.length (Pool.wc (Pool.next ⟨size, L⟩ nx (l.getD k Pool.Act.zero).n).1.L), It.blk b41 32 [i64 size, vx1], It.row 38 76 v1 (Pool.next ⟨size, L⟩ nx (l.getD k Pool.Act.zero).n).1.L.length (Pool.wc (Pool.next ⟨size, L⟩ nx (l.getD k Pool.Act.zero).n).1.L), It.blk bp 63 [i64 size, v1], It.blk b44 23 [.slice (some ⟨b43, 0, none⟩) 64 64], It.blk b43 3 (nx.map i64)]) (.cons (by repeat (first | exact Ph | apply Pt)) (.cons (by repeat (first | exact Ph | apply Pt)) (.cons (by repeat (first | exact Ph | apply Pt)) (.cons (by repeat (first | exact Ph | apply Pt)) (.cons (by repeat (first | exact Ph | apply Pt)) (.cons (by repeat (first | exact Ph | apply Pt)) (.nil _)))))))).weak ⟨rfl, rfl, rfl, rfl, rfl, trivial⟩ rfl⟩) | (have hz := hk3; exact ⟨(L.filter fun w => !Pool.isOld (l.getD k Pool.Act.zero).n w), nx, v1, vx1, ⟨hg.old' _, hL.filter _, h64⟩, (H146.only (is := [It.row 38 76 vx1 (L.filter fun w => !Pool.isOld (l.getD k Pool.Act.zero).n w).length (Pool.wc (L.filter fun w => !Pool.isOld (l.getD k Pool.Act.zero).n w)), It.blk b41 32 [i64 size, vx1], It.row 38 76 v1 (L.filter fun w => !Pool.isOld (l.getD k Pool.Act.zero).n w).length (Pool.wc (L.filter fun w => !Pool.isOld (l.getD k Pool.Act.zero).n w)), It.blk bp 63 [i64 size, v1], It.blk b44 23 [.slice (some ⟨b43, 0, none⟩) 64 64], It.blk b43 3 (nx.map i64)]) (.cons (by repeat (first | exact Ph | apply Pt)) (.cons (by repeat (first | exact Ph | apply Pt)) (.cons (by repeat (first | exact Ph | apply Pt)) (.cons (by repeat (first | exact Ph | apply Pt)) (.cons (by repeat (first | exact Ph | apply Pt)) (.cons (by repeat (first | exact Ph | apply Pt)) (.nil _)))))))).weak ⟨rfl, rfl, rfl, rfl, rfl, trivial⟩ rfl⟩) | (exact ⟨(Pool.put ⟨size, L⟩ (l.getD k Pool.Act.zero).w).1.L, nx, v1, vx1, ⟨hg.put' _, hpw.1, h64⟩, (H146.only (is := [It.row 38 76 vx1 (Pool.put ⟨size, L⟩ (l.getD k Pool.Act.zero).w).1.L.length (Pool.wc (Pool.put ⟨size, L⟩ (l.getD k Pool.Act.zero).w).1.L), It.blk b41 32 [i64 size, vx1], It.row 38 76 v1 (Pool.put ⟨size, L⟩ (l.getD k Pool.Act.zero).w).1.L.length (Pool.wc (Pool.put ⟨size, L⟩ (l.getD k Pool.Act.zero).w).1.L), It.blk bp 63 [i64 size, v1], It.blk b44 23 [.slice (some ⟨b43, 0, none⟩) 64 64], It.blk b43 3 (nx.map i64)]) (.cons (by repeat (first | exact Ph | apply Pt)) (.cons (by repeat (first | exact Ph | apply Pt)) (.cons (by repeat (first | exact Ph | apply Pt)) (.cons (by repeat (first | exact Ph | apply Pt)) (.cons (by repeat (first | exact Ph | apply Pt)) (.cons (by repeat (first | exact Ph | apply Pt)) (.nil _)))))))).weak ⟨rfl, rfl, rfl, rfl, rfl, trivial⟩ rfl⟩)
              · (try simp only [decide_eq_true_eq, decide_eq_false_iff_not, Bool.not_eq_true', Bool.not_eq_false', Bool.and_eq_true, Bool.not_eq_true, Bool.not_eq_false] at hc105); (exfalso; exact hc105 hk0)
            · skip
              try simp only [decide_eq_true_eq, decide_eq_false_iff_not, Bool.not_eq_true', Bool.not_eq_false', Bool.and_eq_true, Bool.not_eq_true, Bool.not_eq_false] at hc104
              refine wp_seq ?_
              refine reg ?_
              refine plain (y_eql rfl rfl rfl) rfl rfl rfl H103 ?_
              clear H103; intro a148 H148
              refine plain (y_assign rfl rfl) rfl rfl rfl H148 ?_
              clear H148; intro a149 H149
              refine fin ?_
              refine then_n ?_
              refine cnd H149 rfl (fun hc150 => ?_) (fun hc150 => ?_) -- cond 9
              · skip
                try simp only [decide_eq_true_eq, decide_eq_false_iff_not, Bool.not_eq_true', Bool.not_eq_false', Bool.and_eq_true, Bool.not_eq_true, Bool.not_eq_false] at hc150
                have hk1 := hc150
                refine wp_skip ?_
                refine then_n ?_
                refine cnd H149 rfl (fun hc151 => ?_) (fun hc151 => ?_) -- cond 10
                · skip
                  try simp only [decide_eq_true_eq, decide_eq_false_iff_not, Bool.not_eq_true', Bool.not_eq_false', Bool.and_eq_true, Bool.not_eq_true, Bool.not_eq_false] at hc151
                  refine wp_seq ?_
                  have hpw := Pool.put_wf (p := ⟨size, L⟩) hL wc.w
                  have hq1 := hpw.2.tx.hand
                  have hq2 := hpw.2.tx.tag
                  refine reg ?_
                  refine plain (y_move rfl rfl) rfl rfl rfl H149 ?_
                  clear H149; intro a152 H152
                  refine plain (y_fieldB rfl z_field40_2 rfl (by first | (simp only [Nat.zero_add, Nat.add_zero, Nat.reduceAdd]; rfl) | rfl)) rfl rfl rfl H152 ?_
                  clear H152; intro a153 H153
                  refine plain (y_loadAB rfl z_agg38 z_size38 rfl (by repeat (first | exact Mh | apply Mt)) (q_ld_c10b32b32c4_2_76 (by assumption) (by assumption)) (q_len_c8b32b32c4 (by assumption) (by assumption))) rfl rfl rfl H153 ?_
                  clear H153; intro a154 H154
                  refine st_callk2 (is := [It.row 38 76 v L.length (Pool.wc L), It.blk bp 63 [i64 size, v]]) (enters_call rfl z_call10 rfl) rfl rfl rfl H154 (.cons (by repeat (first | exact Ph | apply Pt)) (.cons (by repeat (first | exact Ph | apply Pt)) (.nil _))) (fun hs => pput L hL size bp v hlen hg (l.getD k Pool.Act.zero).w wc.w hs) ?_
                  clear H154; intro v155 l155 a155 wx155 hf155 H155
                  obtain ⟨rfl, v1, rfl⟩ := hf155
                  simp only [List.cons_append, List.nil_append] at H155
                  refine plain (y_move rfl rfl) rfl rfl rfl H155 ?_
                  clear H155; intro a156 H156
                  refine plain (y_extract rfl rfl rfl) rfl rfl rfl H156 ?_
                  clear H156; intro a157 H157
                  refine plain (y_extract rfl rfl rfl) rfl rfl rfl H157 ?_
                  clear H157; intro a158 H158
                  refine plain (y_extract rfl rfl rfl) rfl rfl rfl H158 ?_
                  clear H158; intro a159 H159
                  refine st_alloc rfl z_zeroN38 rfl rfl rfl H159 ?_
                  clear H159; intro b160 a160 wx160 H160
                  refine st_storeN rfl z_size38 rfl rfl (agg_cells _) (by repeat (first | exact Uh | apply Ut)) (q_one_c8b32b32c4 rfl rfl rfl rfl rfl rfl rfl rfl rfl rfl rfl rfl) (q_len_c8b32b32c4 (by assumption) (by assumption)) (q_len_c8b32b32c4 (by assumption) (by assumption)) (q_spl_c8b32b32c4_0_c8b32b32c4 (by assumption) (by assumption) (by assumption) (by assumption)) (by decide) rfl rfl H160 ?_
                  clear H160; intro wx161 H161
                  refine plain (y_assign rfl rfl) rfl rfl rfl H161 ?_
                  clear H161; intro a162 H162
                  refine plain (y_assign rfl rfl) rfl rfl rfl H162 ?_
                  clear H162; intro a163 H163
                  refine fin ?_
                  refine then_n ?_
                  refine wp_seq ?_
                  refine reg ?_
                  refine plain (y_move rfl rfl) rfl rfl rfl H163 ?_
                  clear H163; intro a164 H164
                  refine plain (y_fieldB rfl z_field40_2 rfl (by first | (simp only [Nat.zero_add, Nat.add_zero, Nat.reduceAdd]; rfl) | rfl)) rfl rfl rfl H164 ?_
                  clear H164; intro a165 H165
                  refine plain (y_loadAB rfl z_agg38 z_size38 rfl (by repeat (first | exact Mh | apply Mt)) (q_ld_c10b32b32c4_2_76 (by assumption) (by assumption)) (q_len_c8b32b32c4 (by assumption) (by assumption))) rfl rfl rfl H165 ?_
                  clear H165; intro a166 H166
                  refine st_callk2 (is := [It.row 38 76 vx L.length (Pool.wc L), It.blk b41 32 [i64 size, vx]]) (enters_call rfl z_call11 rfl) rfl rfl rfl H166 (.cons (by repeat (first | exact Ph | apply Pt)) (.cons (by repeat (first | exact Ph | apply Pt)) (.nil _))) (fun hs => xput L hL size b41 vx hlen hg (l.getD k Pool.Act.zero).w wc.w hs) ?_
                  clear H166; intro v167 l167 a167 wx167 hf167 H167
                  obtain ⟨rfl, vx1, rfl⟩ := hf167
                  simp only [List.cons_append, List.nil_append] at H167
                  refine plain (y_move rfl rfl) rfl rfl rfl H167 ?_
                  clear H167; intro a168 H168
                  refine plain (y_extract rfl rfl rfl) rfl rfl rfl H168 ?_
                  clear H168; intro a169 H169
                  refine plain (y_extract rfl rfl rfl) rfl rfl rfl H169 ?_
                  clear H169; intro a170 H170
                  refine plain (y_extract rfl rfl rfl) rfl rfl rfl H170 ?_
                  clear H170; intro a171 H171
                  refine st_alloc rfl z_zeroN38 rfl rfl rfl H171 ?_
                  clear H171; intro b172 a172 wx172 H172
                  refine st_storeN rfl z_size38 rfl rfl (agg_cells _) (by repeat (first | exact Uh | apply Ut)) (q_one_c8b32b32c4 rfl rfl rfl rfl rfl rfl rfl rfl rfl rfl rfl rfl) (q_len_c8b32b32c4 (by assumption) (by assumption)) (q_len_c8b32b32c4 (by assumption) (by assumption)) (q_spl_c8b32b32c4_0_c8b32b32c4 (by assumption) (by assumption) (by assumption) (by assumption)) (by decide) rfl rfl H172 ?_
                  clear H172; intro wx173 H173
                  refine plain (y_assign rfl rfl) rfl rfl rfl H173 ?_
                  clear H173; intro a174 H174
                  refine plain (y_assign rfl rfl) rfl rfl rfl H174 ?_
                  clear H174; intro a175 H175
                  refine fin ?_
                  refine then_n ?_
                  refine wp_seq ?_
                  refine reg ?_
                  refine plain (y_loadAB rfl z_agg38 z_size38 rfl (by repeat (first | exact Mh | apply Mt)) (q_ld_c8b32b32c4_0_76 (by assumption) (by assumption)) (q_len_c8b32b32c4 (by assumption) (by assumption))) rfl rfl rfl H175 ?_
                  clear H175; intro a176 H176
                  refine plain (y_loadAB rfl z_agg38 z_size38 rfl (by repeat (first | exact Mh | apply Mt)) (q_ld_c8b32b32c4_0_76 (by assumption) (by assumption)) (q_len_c8b32b32c4 (by assumption) (by assumption))) rfl rfl rfl H176 ?_
                  clear H176; intro a177 H177
                  refine plain (y_tneq rfl (by kernel_rfl) rfl rfl (eqr_Wait (Pool.put ⟨size, L⟩ (l.getD k Pool.Act.zero).w).2.1 (Pool.put ⟨size, L⟩ (l.getD k Pool.Act.zero).w).2.1 hq1 hq1 hq2 hq2)) rfl rfl rfl H177 ?_
                  clear H177; intro a178 H178
                  refine plain (y_move rfl rfl) rfl rfl rfl H178 ?_
                  clear H178; intro a179 H179
                  have H181 := H179.know (d := 146) (v := .bool false) rfl (congrArg Value.bool (by first | exact decide_eq_false (fun z => z rfl) | rfl | (simp; done) | (simp; omega)))
                  clear H179
                  refine plain (y_move rfl rfl) rfl rfl rfl H181 ?_
                  clear H181; intro a182 H182
                  refine plain (y_move rfl rfl) rfl rfl rfl H182 ?_
                  clear H182; intro a183 H183
                  refine plain (y_bneq rfl Try.underlying4 rfl rfl) rfl rfl rfl H183 ?_
                  clear H183; intro a184 H184
                  refine plain (y_pick_f rfl rfl rfl) rfl rfl rfl H184 ?_
                  clear H184; intro a185 H185
                  refine plain (y_move rfl rfl) rfl rfl rfl H185 ?_
                  clear H185; intro a186 H186
                  have H188 := H186.know (d := 151) (v := .bool false) rfl (congrArg Value.bool (by first | fail | rfl | (simp; done) | (simp; omega)))
                  clear H186
                  refine plain (y_move rfl rfl) rfl rfl rfl H188 ?_
                  clear H188; intro a189 H189
                  refine plain (y_move rfl rfl) rfl rfl rfl H189 ?_
                  clear H189; intro a190 H190
                  refine plain (y_neq rfl rfl rfl) rfl rfl rfl H190 ?_
                  clear H190; intro a191 H191
                  refine plain (y_pick_f rfl rfl rfl) rfl rfl rfl H191 ?_
                  clear H191; intro a192 H192
                  refine fin ?_
                  refine then_n ?_
                  refine cnd H192 rfl (fun hc193 => ?_) (fun hc193 => ?_) -- cond 11
                  · (try simp only [decide_eq_true_eq, decide_eq_false_iff_not, Bool.not_eq_true', Bool.not_eq_false', Bool.and_eq_true, Bool.not_eq_true, Bool.not_eq_false] at hc193); (exfalso; simp at hc193)
                  · skip
                    try simp only [decide_eq_true_eq, decide_eq_false_iff_not, Bool.not_eq_true', Bool.not_eq_false', Bool.and_eq_true, Bool.not_eq_true, Bool.not_eq_false] at hc193
                    refine wp_skip ?_
                    refine inb_n ?_
                    refine cut_n ?_
                    first | (have hz := hn; have hbb : (nx.map i64).set (0 + (Pool.next ⟨size, L⟩ nx (l.getD k Pool.Act.zero).n).2.1.tx.src.toNat * 1) (.int .i64 (nx.getD (Pool.next ⟨size, L⟩ nx (l.getD k Pool.Act.zero).n).2.1.tx.src.toNat 0 + 1)) = (Pool.bump nx (Pool.next ⟨size, L⟩ nx (l.getD k Pool.Act.zero).n).2.1).map i64 := i64_set _ _ _; rw [hbb] at H192; exact ⟨(Pool.next ⟨size, L⟩ nx (l.getD k Pool.Act.zero).n).1.L, (Pool.bump nx (Pool.next ⟨size, L⟩ nx (l.getD k Pool.Act.zero).n).2.1), v1, vx1, ⟨hg.next' nx _, hpw.1, by rw [Pool.bump_len]; exact h64⟩, (H192.only (is := [It.row 38 76 vx1 (Pool.next ⟨size, L⟩ nx (l.getD k Pool.Act.zero).n).1.L.length (Pool.wc (Pool.next ⟨size, L⟩ nx (l.getD k Pool.Act.zero).n).1.L), It.blk b41 32 [i64 size, vx1], It.row 38 76 v1 (Pool.next ⟨size, L⟩ nx (l.getD k Pool.Act.zero).n).1.L.length (Pool.wc (Pool.next ⟨size, L⟩ nx (l.getD k Pool.Act.zero).n).1.L), It.blk bp 63 [i64 size, v1], It.blk b44 23 [.slice (some ⟨b43, 0, none⟩) 64 64], It.blk b43 3 ((Pool.bump nx (Pool.next ⟨size, L⟩ nx (l.getD k Pool.Act.zero).n).2.1).map i64)]) (.cons (by repeat (first | exact Ph | apply Pt)) (.cons (by repeat (first | exact Ph | apply Pt)) (.cons (by repeat (first | exact Ph | apply Pt)) (.cons (by repeat (first | exact Ph | apply Pt)) (.cons (by repeat (first | exact Ph | apply Pt)) (.cons (by repeat (first | exact Ph | apply Pt)) (.nil _)))))))).weak ⟨rfl, rfl, rfl, rfl, rfl, trivial⟩ rfl⟩) | (have hz := hno; exact ⟨(Pool.next ⟨size, L⟩ nx (l.getD k Pool.Act.zero).n).1.L, nx, v1, vx1, ⟨hg.next' nx _, hpw.1, h64⟩, (H192.only (is := [It.row 38 76 vx1 (Pool.next ⟨size, L⟩ nx (l.getD k Pool.Act.zero).n).1.L.length (Pool.wc (Pool.next ⟨size, L⟩ nx (l.getD k Pool.Act.zero).n).1.L), It.blk b41 32 [i64 size, vx1], It.row 38 76 v1 (Pool.next ⟨size, L⟩ nx (l.getD k Pool.Act.zero).n).1.L.length (Pool.wc (Pool.next ⟨size, L⟩ nx (l.getD k Pool.Act.zero).n).1.L), It.blk bp 63 [i64 size, v1], It.blk b44 23 [.slice (some ⟨b43, 0, none⟩) 64 64], It.blk b43 3 (nx.map i64)]) (.cons (by repeat (first | exact Ph | apply Pt)) (.cons (by repeat (first | exact Ph | apply Pt)) (.cons (by repeat (first | exact Ph | apply Pt)) (.cons (by repeat (first | exact Ph | apply Pt)) (.cons (by repeat (first | exact Ph | apply Pt)) (.cons (by repeat (first | exact Ph | apply Pt)) (.nil _)))))))).weak ⟨rfl, rfl, rfl, rfl, rfl, trivial⟩ rfl⟩) | (have hz := hk3; exact ⟨(L.filter fun w => !Pool.isOld (l.getD k Pool.Act.zero).n w), nx, v1, vx1, ⟨hg.old' _, hL.filter _, h64⟩, (H192.only (is := [It.row 38 76 vx1 (L.filter fun w => !Pool.isOld (l.getD k Pool.Act.zero).n w).length (Pool.wc (L.filter fun w => !Pool.isOld (l.getD k Pool.Act.zero).n w)), It.blk b41 32 [i64 size, vx1], It.row 38 76 v1 (L.filter fun w => !Pool.isOld (l.getD k Pool.Act.zero).n w).length (Pool.wc (L.filter fun w => !Pool.isOld (l.getD k Pool.Act.zero).n w)), It.blk bp 63 [i64 size, v1], It.blk b44 23 [.slice (some ⟨b43, 0, none⟩) 64 64], It.blk b43 3 (nx.map i64)]) (.cons (by repeat (first | exact Ph | apply Pt)) (.cons (by repeat (first | exact Ph | apply Pt)) (.cons (by repeat (first | exact Ph | apply Pt)) (.cons (by repeat (first | exact Ph | apply Pt)) (.cons (by repeat (first | exact Ph | apply Pt)) (.cons (by repeat (first | exact Ph | apply Pt)) (.nil _)))))))).weak ⟨rfl, rfl, rfl, rfl, rfl, trivial⟩ rfl⟩) | (exact ⟨(Pool.put ⟨size, L⟩ (l.getD k Pool.Act.zero).w).1.L, nx, v1, vx1, ⟨hg.put' _, hpw.1, h64⟩, (H192.only (is := [It.row 38 76 vx1 (Pool.put ⟨size, L⟩ (l.getD k Pool.Act.zero).w).1.L.length (Pool.wc (Pool.put ⟨size, L⟩ (l.getD k Pool.Act.zero).w).1.L), It.blk b41 32 [i64 size, vx1], It.row 38 76 v1 (Pool.put ⟨size, L⟩ (l.getD k Pool.Act.zero).w).1.L.length (Pool.wc (Pool.put ⟨size, L⟩ (l.getD k Pool.Act.zero).w).1.L), It.blk bp 63 [i64 size, v1], It.blk b44 23 [.slice (some ⟨b43, 0, none⟩) 64 64], It.blk b43 3 (nx.map i64)]) (.cons (by repeat (first | exact Ph | apply Pt)) (.cons (by repeat (first | exact Ph | apply Pt)) (.cons (by repeat (first | exact Ph | apply Pt)) (.cons (by repeat (first | exact Ph | apply Pt)) (.cons (by repeat (first | exact Ph | apply Pt)) (.cons (by repeat (first | exact Ph | apply Pt)) (.nil _)))))))).weak ⟨rfl, rfl, rfl, rfl, rfl, trivial⟩ rfl⟩)
                · (try simp only [decide_eq_true_eq, decide_eq_false_iff_not, Bool.not_eq_true', Bool.not_eq_false', Bool.and_eq_true, Bool.not_eq_true, Bool.not_eq_false] at hc151); (exfalso; exact hc151 hk1)
              · skip
                try simp only [decide_eq_true_eq, decide_eq_false_iff_not, Bool.not_eq_true', Bool.not_eq_false', Bool.and_eq_true, Bool.not_eq_true, Bool.not_eq_false] at hc150
                refine reg ?_
                refine plain (y_eql rfl rfl rfl) rfl rfl rfl H149 ?_
                clear H149; intro a194 H194
                refine plain (y_assign rfl rfl) rfl rfl rfl H194 ?_
                clear H194; intro a195 H195
                refine fin ?_
                refine then_n ?_
                refine cnd H195 rfl (fun hc196 => ?_) (fun hc196 => ?_) -- cond 12
                · skip
                  try simp only [decide_eq_true_eq, decide_eq_false_iff_not, Bool.not_eq_true', Bool.not_eq_false', Bool.and_eq_true, Bool.not_eq_true, Bool.not_eq_false] at hc196
                  refine wp_seq ?_
                  have hpw := Pool.put_wf (p := ⟨size, L⟩) hL wc.w
                  have hq1 := hpw.2.tx.hand
                  have hq2 := hpw.2.tx.tag
                  refine reg ?_
                  refine plain (y_move rfl rfl) rfl rfl rfl H195 ?_
                  clear H195; intro a197 H197
                  refine plain (y_fieldB rfl z_field40_2 rfl (by first | (simp only [Nat.zero_add, Nat.add_zero, Nat.reduceAdd]; rfl) | rfl)) rfl rfl rfl H197 ?_
                  clear H197; intro a198 H198
                  refine plain (y_loadAB rfl z_agg38 z_size38 rfl (by repeat (first | exact Mh | apply Mt)) (q_ld_c10b32b32c4_2_76 (by assumption) (by assumption)) (q_len_c8b32b32c4 (by assumption) (by assumption))) rfl rfl rfl H198 ?_
                  clear H198; intro a199 H199
                  refine st_callk2 (is := [It.row 38 76 v L.length (Pool.wc L), It.blk bp 63 [i64 size, v]]) (enters_call rfl z_call10 rfl) rfl rfl rfl H199 (.cons (by repeat (first | exact Ph | apply Pt)) (.cons (by repeat (first | exact Ph | apply Pt)) (.nil _))) (fun hs => pput L hL size bp v hlen hg (l.getD k Pool.Act.zero).w wc.w hs) ?_
                  clear H199; intro v200 l200 a200 wx200 hf200 H200
                  obtain ⟨rfl, v1, rfl⟩ := hf200
                  simp only [List.cons_append, List.nil_append] at H200
                  refine plain (y_move rfl rfl) rfl rfl rfl H200 ?_
                  clear H200; intro a201 H201
                  refine plain (y_extract rfl rfl rfl) rfl rfl rfl H201 ?_
                  clear H201; intro a202 H202
                  refine plain (y_extract rfl rfl rfl) rfl rfl rfl H202 ?_
                  clear H202; intro a203 H203
                  refine plain (y_extract rfl rfl rfl) rfl rfl rfl H203 ?_
                  clear H203; intro a204 H204
                  refine st_alloc rfl z_zeroN38 rfl rfl rfl H204 ?_
                  clear H204; intro b205 a205 wx205 H205
                  refine st_storeN rfl z_size38 rfl rfl (agg_cells _) (by repeat (first | exact Uh | apply Ut)) (q_one_c8b32b32c4 rfl rfl rfl rfl rfl rfl rfl rfl rfl rfl rfl rfl) (q_len_c8b32b32c4 (by assumption) (by assumption)) (q_len_c8b32b32c4 (by assumption) (by assumption)) (q_spl_c8b32b32c4_0_c8b32b32c4 (by assumption) (by assumption) (by assumption) (by assumption)) (by decide) rfl rfl H205 ?_
                  clear H205; intro wx206 H206
                  refine plain (y_assign rfl rfl) rfl rfl rfl H206 ?_
                  clear H206; intro a207 H207
                  refine plain (y_assign rfl rfl) rfl rfl rfl H207 ?_
                  clear H207; intro a208 H208
                  refine fin ?_
                  refine then_n ?_
                  refine wp_seq ?_
                  refine reg ?_
                  refine plain (y_move rfl rfl) rfl rfl rfl H208 ?_
                  clear H208; intro a209 H209
                  refine plain (y_fieldB rfl z_field40_2 rfl (by first | (simp only [Nat.zero_add, Nat.add_zero, Nat.reduceAdd]; rfl) | rfl)) rfl rfl rfl H209 ?_
                  clear H209; intro a210 H210
                  refine plain (y_loadAB rfl z_agg38 z_size38 rfl (by repeat (first | exact Mh | apply Mt)) (q_ld_c10b32b32c4_2_76 (by assumption) (by assumption)) (q_len_c8b32b32c4 (by assumption) (by assumption))) rfl rfl rfl H210 ?_
                  clear H210; intro a211 H211
                  refine st_callk2 (is := [It.row 38 76 vx L.length (Pool.wc L), It.blk b41 32 [i64 size, vx]]) (enters_call rfl z_call11 rfl) rfl rfl rfl H211 (.cons (by repeat (first | exact Ph | apply Pt)) (.cons (by repeat (first | exact Ph | apply Pt)) (.nil _))) (fun hs => xput L hL size b41 vx hlen hg (l.getD k Pool.Act.zero).w wc.w hs) ?_
                  clear H211; intro v212 l212 a212 wx212 hf212 H212
                  obtain ⟨rfl, vx1, rfl⟩ := hf212
                  simp only [List.cons_append, List.nil_append] at H212
                  refine plain (y_move rfl rfl) rfl rfl rfl H212 ?_
                  clear H212; intro a213 H213
                  refine plain (y_extract rfl rfl rfl) rfl rfl rfl H213 ?_
                  clear H213; intro a214 H214
                  refine plain (y_extract rfl rfl rfl) rfl rfl rfl H214 ?_
                  clear H214; intro a215 H215
                  refine plain (y_extract rfl rfl rfl) rfl rfl rfl H215 ?_
                  clear H215; intro a216 H216
                  refine st_alloc rfl z_zeroN38 rfl rfl rfl H216 ?_
                  clear H216; intro b217 a217 wx217 H217
                  refine st_storeN rfl z_size38 rfl rfl (agg_cells _) (by repeat (first | exact Uh | apply Ut)) (q_one_c8b32b32c4 rfl rfl rfl rfl rfl rfl rfl rfl rfl rfl rfl rfl) (q_len_c8b32b32c4 (by assumption) (by assumption)) (q_len_c8b32b32c4 (by assumption) (by assumption)) (q_spl_c8b32b32c4_0_c8b32b32c4 (by assumption) (by assumption) (by assumption) (by assumption)) (by decide) rfl rfl H217 ?_
                  clear H217; intro wx218 H218
                  refine plain (y_assign rfl rfl) rfl rfl rfl H218 ?_
                  clear H218; intro a219 H219
                  refine plain (y_assign rfl rfl) rfl rfl rfl H219 ?_
                  clear H219; intro a220 H220
                  refine fin ?_
                  refine then_n ?_
                  refine wp_seq ?_
                  refine reg ?_
                  refine plain (y_loadAB rfl z_agg38 z_size38 rfl (by repeat (first | exact Mh | apply Mt)) (q_ld_c8b32b32c4_0_76 (by assumption) (by assumption)) (q_len_c8b32b32c4 (by assumption) (by assumption))) rfl rfl rfl H220 ?_
                  clear H220; intro a221 H221
                  refine plain (y_loadAB rfl z_agg38 z_size38 rfl (by repeat (first | exact Mh | apply Mt)) (q_ld_c8b32b32c4_0_76 (by assumption) (by assumption)) (q_len_c8b32b32c4 (by assumption) (by assumption))) rfl rfl rfl H221 ?_
                  clear H221; intro a222 H222
                  refine plain (y_tneq rfl (by kernel_rfl) rfl rfl (eqr_Wait (Pool.put ⟨size, L⟩ (l.getD k Pool.Act.zero).w).2.1 (Pool.put ⟨size, L⟩ (l.getD k Pool.Act.zero).w).2.1 hq1 hq1 hq2 hq2)) rfl rfl rfl H222 ?_
                  clear H222; intro a223 H223
                  refine plain (y_move rfl rfl) rfl rfl rfl H223 ?_
                  clear H223; intro a224 H224
                  have H226 := H224.know (d := 146) (v := .bool false) rfl (congrArg Value.bool (by first | exact decide_eq_false (fun z => z rfl) | rfl | (simp; done) | (simp; omega)))
                  clear H224
                  refine plain (y_move rfl rfl) rfl rfl rfl H226 ?_
                  clear H226; intro a227 H227
                  refine plain (y_move rfl rfl) rfl rfl rfl H227 ?_
                  clear H227; intro a228 H228
                  refine plain (y_bneq rfl Try.underlying4 rfl rfl) rfl rfl rfl H228 ?_
                  clear H228; intro a229 H229
                  refine plain (y_pick_f rfl rfl rfl) rfl rfl rfl H229 ?_
                  clear H229; intro a230 H230
                  refine plain (y_move rfl rfl) rfl rfl rfl H230 ?_
                  clear H230; intro a231 H231
                  have H233 := H231.know (d := 151) (v := .bool false) rfl (congrArg Value.bool (by first | fail | rfl | (simp; done) | (simp; omega)))
                  clear H231
                  refine plain (y_move rfl rfl) rfl rfl rfl H233 ?_
                  clear H233; intro a234 H234
                  refine plain (y_move rfl rfl) rfl rfl rfl H234 ?_
                  clear H234; intro a235 H235
                  refine plain (y_neq rfl rfl rfl) rfl rfl rfl H235 ?_
                  clear H235; intro a236 H236
                  refine plain (y_pick_f rfl rfl rfl) rfl rfl rfl H236 ?_
                  clear H236; intro a237 H237
                  refine fin ?_
                  refine then_n ?_
                  refine cnd H237 rfl (fun hc238 => ?_) (fun hc238 => ?_) -- cond 13
                  · (try simp only [decide_eq_true_eq, decide_eq_false_iff_not, Bool.not_eq_true', Bool.not_eq_false', Bool.and_eq_true, Bool.not_eq_true, Bool.not_eq_false] at hc238); (exfalso; simp at hc238)
                  · skip
                    try simp only [decide_eq_true_eq, decide_eq_false_iff_not, Bool.not_eq_true', Bool.not_eq_false', Bool.and_eq_true, Bool.not_eq_true, Bool.not_eq_false] at hc238
                    refine wp_skip ?_
                    refine inb_n ?_
                    refine cut_n ?_
                    first | (have hz := hn; have hbb : (nx.map i64).set (0 + (Pool.next ⟨size, L⟩ nx (l.getD k Pool.Act.zero).n).2.1.tx.src.toNat * 1) (.int .i64 (nx.getD (Pool.next ⟨size, L⟩ nx (l.getD k Pool.Act.zero).n).2.1.tx.src.toNat 0 + 1)) = (Pool.bump nx (Pool.next ⟨size, L⟩ nx (l.getD k Pool.Act.zero).n).2.1).map i64 := i64_set _ _ _; rw [hbb] at H237; exact ⟨(Pool.next ⟨size, L⟩ nx (l.getD k Pool.Act.zero).n).1.L, (Pool.bump nx (Pool.next ⟨size, L⟩ nx (l.getD k Pool.Act.zero).n).2.1), v1, vx1, ⟨hg.next' nx _, hpw.1, by rw [Pool.bump_len]; exact h64⟩, (H237.only (is := [It.row 38 76 vx1 (Pool.next ⟨size, L⟩ nx (l.getD k Pool.Act.zero).n).1.L.length (Pool.wc (Pool.next ⟨size, L⟩ nx (l.getD k Pool.Act.zero).n).1.L), It.blk b41 32 [i64 size, vx1], It.row 38 76 v1 (Pool.next ⟨size, L⟩ nx (l.getD k Pool.Act.zero).n).1.L.length (Pool.wc (Pool.next ⟨size, L⟩ nx (l.getD k Pool.Act.zero).n).1.L), It.blk bp 63 [i64 size, v1], It.blk b44 23 [.slice (some ⟨b43, 0, none⟩) 64 64], It.blk b43 3 ((Pool.bump nx (Pool.next ⟨size, L⟩ nx (l.getD k Pool.Act.zero).n).2.1).map i64)]) (.cons (by repeat (first | exact Ph | apply Pt)) (.cons (by repeat (first | exact Ph | apply Pt)) (.cons (by repeat (first | exact Ph | apply Pt)) (.cons (by repeat (first | exact Ph | apply Pt)) (.cons (by repeat (first | exact Ph | apply Pt)) (.cons (by repeat (first | exact Ph | apply Pt)) (.nil _)))))))).weak ⟨rfl, rfl, rfl, rfl, rfl, trivial⟩ rfl⟩) | (have hz := hno; exact ⟨(Pool.next ⟨size, L⟩ nx (l.getD k Pool.Act.zero).n).1.L, nx, v1, vx1, ⟨hg.next' nx _, hpw.1, h64⟩, (H237.only (is := [It.row 38 76 vx1 (Pool.next ⟨size, L⟩ nx (l.getD k Pool.Act.zero).n).1.L.length (Pool.wc (Pool.next ⟨size, L⟩ nx (l.getD k Pool.Act.zero).n).1.L), It.blk b41 32 [i64 size, vx1], It.row 38 76 v1 (Pool.next ⟨size, L⟩ nx (l.getD k Pool.Act.zero).n).1.L.length (Pool.wc (Pool.next ⟨size, L⟩ nx (l.getD k Pool.Act.zero).n).1.L), It.blk bp 63 [i64 size, v1], It.blk b44 23 [.slice (some ⟨b43, 0, none⟩) 64 64], It.blk b43 3 (nx.map i64)]) (.cons (by repeat (first | exact Ph | apply Pt)) (.cons (by repeat (first | exact Ph | apply Pt)) (.cons (by repeat (first | exact Ph | apply Pt)) (.cons (by repeat (first | exact Ph | apply Pt)) (.cons (by repeat (first | exact Ph | apply Pt)) (.cons (by repeat (first | exact Ph | apply Pt)) (.nil _)))))))).weak ⟨rfl, rfl, rfl, rfl, rfl, trivial⟩ rfl⟩) | (have hz := hk3; exact ⟨(L.filter fun w => !Pool.isOld (l.getD k Pool.Act.zero).n w), nx, v1, vx1, ⟨hg.old' _, hL.filter _, h64⟩, (H237.only (is := [It.row 38 76 vx1 (L.filter fun w => !Pool.isOld (l.getD k Pool.Act.zero).n w).length (Pool.wc (L.filter fun w => !Pool.isOld (l.getD k Pool.Act.zero).n w)), It.blk b41 32 [i64 size, vx1], It.row 38 76 v1 (L.filter fun w => !Pool.isOld (l.getD k Pool.Act.zero).n w).length (Pool.wc (L.filter fun w => !Pool.isOld (l.getD k Pool.Act.zero).n w)), It.blk bp 63 [i64 size, v1], It.blk b44 23 [.slice (some ⟨b43, 0, none⟩) 64 64], It.blk b43 3 (nx.map i64)]) (.cons (by repeat (first | exact Ph | apply Pt)) (.cons (by repeat (first | exact Ph | apply Pt)) (.cons (by repeat (first | exact Ph | apply Pt)) (.cons (by repeat (first | exact Ph | apply Pt)) (.cons (by repeat (first | exact Ph | apply Pt)) (.cons (by repeat (first | exact Ph | apply Pt)) (.nil _)))))))).weak ⟨rfl, rfl, rfl, rfl, rfl, trivial⟩ rfl⟩) | (exact ⟨(Pool.put ⟨size, L⟩ (l.getD k Pool.Act.zero).w).1.L, nx, v1, vx1, ⟨hg.put' _, hpw.1, h64⟩, (H237.only (is := [It.row 38 76 vx1 (Pool.put ⟨size, L⟩ (l.getD k Pool.Act.zero).w).1.L.length (Pool.wc (Pool.put ⟨size, L⟩ (l.getD k Pool.Act.zero).w).1.L), It.blk b41 32 [i64 size, vx1], It.row 38 76 v1 (Pool.put ⟨size, L⟩ (l.getD k Pool.Act.zero).w).1.L.length (Pool.wc (Pool.put ⟨size, L⟩ (l.getD k Pool.Act.zero).w).1.L), It.blk bp 63 [i64 size, v1], It.blk b44 23 [.slice (some ⟨b43, 0, none⟩) 64 64], It.blk b43 3 (nx.map i64)]) (.cons (by repeat (first | exact Ph | apply Pt)) (.cons (by repeat (first | exact Ph | apply Pt)) (.cons (by repeat (first | exact Ph | apply Pt)) (.cons (by repeat (first | exact Ph | apply Pt)) (.cons (by repeat (first | exact Ph | apply Pt)) (.cons (by repeat (first | exact Ph | apply Pt)) (.nil _)))))))).weak ⟨rfl, rfl, rfl, rfl, rfl, trivial⟩ rfl⟩)
                · skip
                  try simp only [decide_eq_true_eq, decide_eq_false_iff_not, Bool.not_eq_true', Bool.not_eq_false', Bool.and_eq_true, Bool.not_eq_true, Bool.not_eq_false] at hc196
                  refine wp_seq ?_
                  refine reg ?_
                  refine plain (y_eql rfl rfl rfl) rfl rfl rfl H195 ?_
                  clear H195; intro a239 H239
                  refine plain (y_assign rfl rfl) rfl rfl rfl H239 ?_
                  clear H239; intro a240 H240
                  refine fin ?_
                  refine then_n ?_
                  refine cnd H240 rfl (fun hc241 => ?_) (fun hc241 => ?_) -- cond 14
                  · skip
                    try simp only [decide_eq_true_eq, decide_eq_false_iff_not, Bool.not_eq_true', Bool.not_eq_false', Bool.and_eq_true, Bool.not_eq_true, Bool.not_eq_false] at hc241
                    have hk3 := hc241
                    refine wp_seq ?_
                    refine hreg [It.blk b98 40 (Pool.Act.cells (l.getD k Pool.Act.zero))] (fun _ h => (h.sub (by first | exact S0 | exact S1 | repeat (first | exact S1 | exact S0 | apply S2 | apply S3)))) (by kernel_rfl) H240 ?_
                    clear H240; intro wx242 H242
                    refine htake 0 rfl (by kernel_rfl) (y_move rfl rfl) rfl rfl rfl (fun _ h => (h.sub (by first | exact S0 | exact S1 | repeat (first | exact S1 | exact S0 | apply S2 | apply S3)))) H242 ?_
                    clear H242; intro a243 H243
                    refine htake 1 rfl (by kernel_rfl) (y_fieldB rfl z_field40_1 rfl (by first | (simp only [Nat.zero_add, Nat.add_zero, Nat.reduceAdd]; rfl) | rfl)) rfl rfl rfl (fun _ h => (h.sub (by first | exact S0 | exact S1 | repeat (first | exact S1 | exact S0 | apply S2 | apply S3)))) H243 ?_
                    clear H243; intro a244 H244
                    refine htake 2 rfl (by kernel_rfl) (y_loadB rfl z_agg3 rfl (by repeat (first | exact Mh | apply Mt)) q_ix_c10b32b32c4_1) rfl rfl rfl (fun _ h => (h.sub (by first | exact S0 | exact S1 | repeat (first | exact S1 | exact S0 | apply S2 | apply S3)))) H244 ?_
                    clear H244; intro a245 H245
                    refine htake 4 rfl (by kernel_rfl) (y_move rfl rfl) rfl rfl rfl (fun _ h => (h.sub (by first | exact S0 | exact S1 | repeat (first | exact S1 | exact S0 | apply S2 | apply S3)))) H245 ?_
                    clear H245; intro a246 H246
                    refine htake 5 rfl (by kernel_rfl) (y_fieldB rfl z_field40_1 rfl (by first | (simp only [Nat.zero_add, Nat.add_zero, Nat.reduceAdd]; rfl) | rfl)) rfl rfl rfl (fun _ h => (h.sub (by first | exact S0 | exact S1 | repeat (first | exact S1 | exact S0 | apply S2 | apply S3)))) H246 ?_
                    clear H246; intro a247 H247
                    refine htake 6 rfl (by kernel_rfl) (y_loadB rfl z_agg3 rfl (by repeat (first | exact Mh | apply Mt)) q_ix_c10b32b32c4_1) rfl rfl rfl (fun _ h => (h.sub (by first | exact S0 | exact S1 | repeat (first | exact S1 | exact S0 | apply S2 | apply S3)))) H247 ?_
                    clear H247; intro a248 H248
                    refine hgo 3 rfl (by kernel_rfl) ?_
                    refine st_callk2 (is := [It.row 38 76 v L.length (Pool.wc L), It.blk bp 63 [i64 size, v]]) (enters_call rfl z_call13 rfl) rfl rfl rfl H248 (.cons (by repeat (first | exact Ph | apply Pt)) (.cons (by repeat (first | exact Ph | apply Pt)) (.nil _))) (fun hs => pold L hL size bp v hlen (l.getD k Pool.Act.zero).n hs) ?_
                    clear H248; intro v249 l249 a249 wx249 hf249 H249
                    obtain ⟨v1, rfl⟩ := hf249
                    simp only [List.cons_append, List.nil_append] at H249
                    obtain ⟨AO, cO, rfl, hRO, hmO⟩ := row_shape (v := v249) H249.sep (by repeat (first | exact Mh | apply Mt))
                    refine hfinA H249.sep ?_
                    refine hgo 7 rfl (by kernel_rfl) ?_
                    refine st_callk2 (is := [It.row 38 76 vx L.length (Pool.wc L), It.blk b41 32 [i64 size, vx]]) (enters_call rfl z_call14 rfl) rfl rfl rfl H249 (.cons (by repeat (first | exact Ph | apply Pt)) (.cons (by repeat (first | exact Ph | apply Pt)) (.nil _))) (fun hs => xold L hL size b41 vx hlen (l.getD k Pool.Act.zero).n hs) ?_
                    clear H249; intro v250 l250 a250 wx250 hf250 H250
                    obtain ⟨vx1, rfl⟩ := hf250
                    simp only [List.cons_append, List.nil_append] at H250
                    obtain ⟨AX, cX, rfl, hRX, hmX⟩ := row_shape (v := v250) H250.sep (by repeat (first | exact Mh | apply Mt))
                    refine hfinA H250.sep ?_
                    refine hgo 8 rfl (by kernel_rfl) ?_
                    refine st_callg rfl z_call12 rfl rfl rfl rfl H250 (xsame (L.filter (Pool.isOld (l.getD k Pool.Act.zero).n)) (hL.filter _) AO AX cO cX (by have := List.length_filter_le (Pool.isOld (l.getD k Pool.Act.zero).n) L; omega) (Rd.ofSep (rd_row (by repeat (first | exact Mh | apply Mt))) H250.sep) (Rd.ofSep (rd_row (by repeat (first | exact Mh | apply Mt))) H250.sep)) ?_
                    clear H250; intro a251 wx251 H251
                    refine hfinA H251.sep ?_
                    refine htake 9 rfl (by kernel_rfl) (y_not rfl rfl) rfl rfl rfl (fun _ h => (h.sub (by first | exact S0 | exact S1 | repeat (first | exact S1 | exact S0 | apply S2 | apply S3)))) H251 ?_
                    clear H251; intro a252 H252
                    refine hdone (by kernel_rfl) ?_
                    refine then_n ?_
                    refine cnd_f H252 rfl ?_
                    refine wp_skip ?_
                    refine inb_n ?_
                    refine cut_n ?_
                    first | (have hz := hn; have hbb : (nx.map i64).set (0 + (Pool.next ⟨size, L⟩ nx (l.getD k Pool.Act.zero).n).2.1.tx.src.toNat * 1) (.int .i64 (nx.getD (Pool.next ⟨size, L⟩ nx (l.getD k Pool.Act.zero).n).2.1.tx.src.toNat 0 + 1)) = (Pool.bump nx (Pool.next ⟨size, L⟩ nx (l.getD k Pool.Act.zero).n).2.1).map i64 := i64_set _ _ _; rw [hbb] at H252; exact ⟨(Pool.next ⟨size, L⟩ nx (l.getD k Pool.Act.zero).n).1.L, (Pool.bump nx (Pool.next ⟨size, L⟩ nx (l.getD k Pool.Act.zero).n).2.1), v1, vx1, ⟨hg.next' nx _, hpw.1, by rw [Pool.bump_len]; exact h64⟩, (H252.only (is := [It.row 38 76 vx1 (Pool.next ⟨size, L⟩ nx (l.getD k Pool.Act.zero).n).1.L.length (Pool.wc (Pool.next ⟨size, L⟩ nx (l.getD k Pool.Act.zero).n).1.L), It.blk b41 32 [i64 size, vx1], It.row 38 76 v1 (Pool.next ⟨size, L⟩ nx (l.getD k Pool.Act.zero).n).1.L.length (Pool.wc (Pool.next ⟨size, L⟩ nx (l.getD k Pool.Act.zero).n).1.L), It.blk bp 63 [i64 size, v1], It.blk b44 23 [.slice (some ⟨b43, 0, none⟩) 64 64], It.blk b43 3 ((Pool.bump nx (Pool.next ⟨size, L⟩ nx (l.getD k Pool.Act.zero).n).2.1).map i64)]) (.cons (by repeat (first | exact Ph | apply Pt)) (.cons (by repeat (first | exact Ph | apply Pt)) (.cons (by repeat (first | exact Ph | apply Pt)) (.cons (by repeat (first | exact Ph | apply Pt)) (.cons (by repeat (first | exact Ph | apply Pt)) (.cons (by repeat (first | exact Ph | apply Pt)) (.nil _)))))))).weak ⟨rfl, rfl, rfl, rfl, rfl, trivial⟩ rfl⟩) | (have hz := hno; exact ⟨(Pool.next ⟨size, L⟩ nx (l.getD k Pool.Act.zero).n).1.L, nx, v1, vx1, ⟨hg.next' nx _, hpw.1, h64⟩, (H252.only (is := [It.row 38 76 vx1 (Pool.next ⟨size, L⟩ nx (l.getD k Pool.Act.zero).n).1.L.length (Pool.wc (Pool.next ⟨size, L⟩ nx (l.getD k Pool.Act.zero).n).1.L), It.blk b41 32 [i64 size, vx1], It.row 38 76 v1 (Pool.next ⟨size, L⟩ nx (l.getD k Pool.Act.zero).n).1.L.length (Pool.wc (Pool.next ⟨size, L⟩ nx (l.getD k Pool.Act.zero).n).1.L), It.blk bp 63 [i64 size, v1], It.blk b44 23 [.slice (some ⟨b43, 0, none⟩) 64 64], It.blk b43 3 (nx.map i64)]) (.cons (by repeat (first | exact Ph | apply Pt)) (.cons (by repeat (first | exact Ph | apply Pt)) (.cons (by repeat (first | exact Ph | apply Pt)) (.cons (by repeat (first | exact Ph | apply Pt)) (.cons (by repeat (first | exact Ph | apply Pt)) (.cons (by repeat (first | exact Ph | apply Pt)) (.nil _)))))))).weak ⟨rfl, rfl, rfl, rfl, rfl, trivial⟩ rfl⟩) | (have hz := hk3; exact ⟨(L.filter fun w => !Pool.isOld (l.getD k Pool.Act.zero).n w), nx, v1, vx1, ⟨hg.old' _, hL.filter _, h64⟩, (H252.only (is := [It.row 38 76 vx1 (L.filter fun w => !Pool.isOld (l.getD k Pool.Act.zero).n w).length (Pool.wc (L.filter fun w => !Pool.isOld (l.getD k Pool.Act.zero).n w)), It.blk b41 32 [i64 size, vx1], It.row 38 76 v1 (L.filter fun w => !Pool.isOld (l.getD k Pool.Act.zero).n w).length (Pool.wc (L.filter fun w => !Pool.isOld (l.getD k Pool.Act.zero).n w)), It.blk bp 63 [i64 size, v1], It.blk b44 23 [.slice (some ⟨b43, 0, none⟩) 64 64], It.blk b43 3 (nx.map i64)]) (.cons (by repeat (first | exact Ph | apply Pt)) (.cons (by repeat (first | exact Ph | apply Pt)) (.cons (by repeat (first | exact Ph | apply Pt)) (.cons (by repeat (first | exact Ph | apply Pt)) (.cons (by repeat (first | exact Ph | apply Pt)) (.cons (by repeat (first | exact Ph | apply Pt)) (.nil _)))))))).weak ⟨rfl, rfl, rfl, rfl, rfl, trivial⟩ rfl⟩) | (exact ⟨(Pool.put ⟨size, L⟩ (l.getD k Pool.Act.zero).w).1.L, nx, v1, vx1, ⟨hg.put' _, hpw.1, h64⟩, (H252.only (is := [It.row 38 76 vx1 (Pool.put ⟨size, L⟩ (l.getD k Pool.Act.zero).w).1.L.length (Pool.wc (Pool.put ⟨size, L⟩ (l.getD k Pool.Act.zero).w).1.L), It.blk b41 32 [i64 size, vx1], It.row 38 76 v1 (Pool.put ⟨size, L⟩ (l.getD k Pool.Act.zero).w).1.L.length (Pool.wc (Pool.put ⟨size, L⟩ (l.getD k Pool.Act.zero).w).1.L), It.blk bp 63 [i64 size, v1], It.blk b44 23 [.slice (some ⟨b43, 0, none⟩) 64 64], It.blk b43 3 (nx.map i64)]) (.cons (by repeat (first | exact Ph | apply Pt)) (.cons (by repeat (first | exact Ph | apply Pt)) (.cons (by repeat (first | exact Ph | apply Pt)) (.cons (by repeat (first | exact Ph | apply Pt)) (.cons (by repeat (first | exact Ph | apply Pt)) (.cons (by repeat (first | exact Ph | apply Pt)) (.nil _)))))))).weak ⟨rfl, rfl, rfl, rfl, rfl, trivial⟩ rfl⟩)
                  · skip
                    try simp only [decide_eq_true_eq, decide_eq_false_iff_not, Bool.not_eq_true', Bool.not_eq_false', Bool.and_eq_true, Bool.not_eq_true, Bool.not_eq_false] at hc241
                    have hk4 := hc241
                    refine wp_seq ?_
                    have hpw := Pool.next_wf (size := size) hL nx (l.getD k Pool.Act.zero).n
                    have hq1 := hpw.2.tx.hand
                    have hq2 := hpw.2.tx.tag
                    refine reg ?_
                    refine plain (y_move rfl rfl) rfl rfl rfl H240 ?_
                    clear H240; intro a254 H254
                    refine plain (y_fieldB rfl z_field40_1 rfl (by first | (simp only [Nat.zero_add, Nat.add_zero, Nat.reduceAdd]; rfl) | rfl)) rfl rfl rfl H254 ?_
                    clear H254; intro a255 H255
                    refine plain (y_loadB rfl z_agg3 rfl (by repeat (first | exact Mh | apply Mt)) q_ix_c10b32b32c4_1) rfl rfl rfl H255 ?_
                    clear H255; intro a256 H256
                    refine plain (y_fn rfl rfl rfl) rfl rfl rfl H256 ?_
                    clear H256; intro a257 H257
                    refine st_callk2 (is := [It.row 38 76 v L.length (Pool.wc L), It.blk bp 63 [i64 size, v]]) (enters_call rfl z_call15 rfl) rfl rfl rfl H257 (.cons (by repeat (first | exact Ph | apply Pt)) (.cons (by repeat (first | exact Ph | apply Pt)) (.nil _))) (fun hs => pnext L hL size bp v hlen hg nx (l.getD k Pool.Act.zero).n 16 (.pointer (some ⟨b44, 0, none⟩)) hs (by kernel_rfl) (fun w' hF q hq => pdoc nx h64 b44 (some ⟨b43, 0, none⟩) 64 q hq (Sep.kept H257.sep (.cons (by repeat (first | exact Ph | apply Pt)) (.cons (by repeat (first | exact Ph | apply Pt)) (.nil _))) (by repeat (first | exact Mh | apply Mt)) hF) (rd_it (Sep.kept (j := It.blk b43 3 (nx.map i64)) H257.sep (.cons (by repeat (first | exact Ph | apply Pt)) (.cons (by repeat (first | exact Ph | apply Pt)) (.nil _))) (by repeat (first | exact Mh | apply Mt)) hF)))) ?_
                    clear H257; intro v258 l258 a258 wx258 hf258 H258
                    obtain ⟨rfl, v1, rfl⟩ := hf258
                    simp only [List.cons_append, List.nil_append] at H258
                    refine plain (y_move rfl rfl) rfl rfl rfl H258 ?_
                    clear H258; intro a259 H259
                    refine plain (y_extract rfl rfl rfl) rfl rfl rfl H259 ?_
                    clear H259; intro a260 H260
                    refine plain (y_extract rfl rfl rfl) rfl rfl rfl H260 ?_
                    clear H260; intro a261 H261
                    refine st_alloc rfl z_zeroN38 rfl rfl rfl H261 ?_
                    clear H261; intro b262 a262 wx262 H262
                    refine st_storeN rfl z_size38 rfl rfl (agg_cells _) (by repeat (first | exact Uh | apply Ut)) (q_one_c8b32b32c4 rfl rfl rfl rfl rfl rfl rfl rfl rfl rfl rfl rfl) (q_len_c8b32b32c4 (by assumption) (by assumption)) (q_len_c8b32b32c4 (by assumption) (by assumption)) (q_spl_c8b32b32c4_0_c8b32b32c4 (by assumption) (by assumption) (by assumption) (by assumption)) (by decide) rfl rfl H262 ?_
                    clear H262; intro wx263 H263
                    refine plain (y_assign rfl rfl) rfl rfl rfl H263 ?_
                    clear H263; intro a264 H264
                    refine fin ?_
                    refine then_n ?_
                    refine wp_seq ?_
                    refine reg ?_
                    refine plain (y_move rfl rfl) rfl rfl rfl H264 ?_
                    clear H264; intro a265 H265
                    refine plain (y_fieldB rfl z_field40_1 rfl (by first | (simp only [Nat.zero_add, Nat.add_zero, Nat.reduceAdd]; rfl) | rfl)) rfl rfl rfl H265 ?_
                    clear H265; intro a266 H266
                    refine plain (y_loadB rfl z_agg3 rfl (by repeat (first | exact Mh | apply Mt)) q_ix_c10b32b32c4_1) rfl rfl rfl H266 ?_
                    clear H266; intro a267 H267
                    refine plain (y_loadB rfl z_agg23 rfl (by repeat (first | exact Mh | apply Mt)) q_ix_c1_0) rfl rfl rfl H267 ?_
                    clear H267; intro a268 H268
                    refine st_callk2 (is := [It.row 38 76 vx L.length (Pool.wc L), It.blk b41 32 [i64 size, vx], It.blk b43 3 (nx.map i64)]) (enters_call rfl z_call17 rfl) rfl rfl rfl H268 (.cons (by repeat (first | exact Ph | apply Pt)) (.cons (by repeat (first | exact Ph | apply Pt)) (.cons (by repeat (first | exact Ph | apply Pt)) (.nil _)))) (fun hs => xnext L hL size b41 vx hlen hg nx h64 b43 (l.getD k Pool.Act.zero).n hs) ?_
                    clear H268; intro v269 l269 a269 wx269 hf269 H269
                    obtain ⟨rfl, vx1, rfl⟩ := hf269
                    simp only [List.cons_append, List.nil_append] at H269
                    refine plain (y_move rfl rfl) rfl rfl rfl H269 ?_
                    clear H269; intro a270 H270
                    refine plain (y_extract rfl rfl rfl) rfl rfl rfl H270 ?_
                    clear H270; intro a271 H271
                    refine plain (y_extract rfl rfl rfl) rfl rfl rfl H271 ?_
                    clear H271; intro a272 H272
                    refine st_alloc rfl z_zeroN38 rfl rfl rfl H272 ?_
                    clear H272; intro b273 a273 wx273 H273
                    refine st_storeN rfl z_size38 rfl rfl (agg_cells _) (by repeat (first | exact Uh | apply Ut)) (q_one_c8b32b32c4 rfl rfl rfl rfl rfl rfl rfl rfl rfl rfl rfl rfl) (q_len_c8b32b32c4 (by assumption) (by assumption)) (q_len_c8b32b32c4 (by assumption) (by assumption)) (q_spl_c8b32b32c4_0_c8b32b32c4 (by assumption) (by assumption) (by assumption) (by assumption)) (by decide) rfl rfl H273 ?_
                    clear H273; intro wx274 H274
                    refine plain (y_assign rfl rfl) rfl rfl rfl H274 ?_
                    clear H274; intro a275 H275
                    refine fin ?_
                    refine then_n ?_
                    refine wp_seq ?_
                    refine wp_seq ?_
                    refine reg ?_
                    refine plain (y_loadAB rfl z_agg38 z_size38 rfl (by repeat (first | exact Mh | apply Mt)) (q_ld_c8b32b32c4_0_76 (by assumption) (by assumption)) (q_len_c8b32b32c4 (by assumption) (by assumption))) rfl rfl rfl H275 ?_
                    clear H275; intro a276 H276
                    refine plain (y_loadAB rfl z_agg38 z_size38 rfl (by repeat (first | exact Mh | apply Mt)) (q_ld_c8b32b32c4_0_76 (by assumption) (by assumption)) (q_len_c8b32b32c4 (by assumption) (by assumption))) rfl rfl rfl H276 ?_
                    clear H276; intro a277 H277
                    refine plain (y_tneq rfl (by kernel_rfl) rfl rfl (eqr_Wait (Pool.next ⟨size, L⟩ nx (l.getD k Pool.Act.zero).n).2.1 (Pool.next ⟨size, L⟩ nx (l.getD k Pool.Act.zero).n).2.1 hq1 hq1 hq2 hq2)) rfl rfl rfl H277 ?_
                    clear H277; intro a278 H278
                    refine plain (y_move rfl rfl) rfl rfl rfl H278 ?_
                    clear H278; intro a279 H279
                    have H281 := H279.know (d := 109) (v := .bool false) rfl (congrArg Value.bool (by first | exact decide_eq_false (fun z => z rfl) | rfl | (simp; done) | (simp; omega)))
                    clear H279
                    refine plain (y_move rfl rfl) rfl rfl rfl H281 ?_
                    clear H281; intro a282 H282
                    refine plain (y_move rfl rfl) rfl rfl rfl H282 ?_
                    clear H282; intro a283 H283
                    refine plain (y_bneq rfl Try.underlying4 rfl rfl) rfl rfl rfl H283 ?_
                    clear H283; intro a284 H284
                    refine plain (y_pick_f rfl rfl rfl) rfl rfl rfl H284 ?_
                    clear H284; intro a285 H285
                    refine fin ?_
                    refine then_n ?_
                    refine cnd H285 rfl (fun hc286 => ?_) (fun hc286 => ?_) -- cond 16
                    · (try simp only [decide_eq_true_eq, decide_eq_false_iff_not, Bool.not_eq_true', Bool.not_eq_false', Bool.and_eq_true, Bool.not_eq_true, Bool.not_eq_false] at hc286); (exfalso; simp at hc286)
                    · skip
                      try simp only [decide_eq_true_eq, decide_eq_false_iff_not, Bool.not_eq_true', Bool.not_eq_false', Bool.and_eq_true, Bool.not_eq_true, Bool.not_eq_false] at hc286
                      refine wp_skip ?_
                      refine then_n ?_
                      refine wp_seq ?_
                      refine reg ?_
                      refine plain (y_move rfl rfl) rfl rfl rfl H285 ?_
                      clear H285; intro a287 H287
                      refine fin ?_
                      refine then_n ?_
                      refine cnd H287 rfl (fun hc288 => ?_) (fun hc288 => ?_) -- cond 17
                      · skip
                        try simp only [decide_eq_true_eq, decide_eq_false_iff_not, Bool.not_eq_true', Bool.not_eq_false', Bool.and_eq_true, Bool.not_eq_true, Bool.not_eq_false] at hc288
                        have hn := hc288
                        have hns := Pool.next_src hg hn
                        have hrs := Pool.right_src hns.1
                        have hnn := hns.2
                        unfold Pool.nextOf at hnn
                        refine reg ?_
                        refine plain (y_loadB rfl z_agg23 rfl (by repeat (first | exact Mh | apply Mt)) q_ix_c1_0) rfl rfl rfl H287 ?_
                        clear H287; intro a289 H289
                        refine plain (y_fieldB rfl z_field38_0 rfl (by first | (simp only [Nat.zero_add, Nat.add_zero, Nat.reduceAdd]; rfl) | rfl)) rfl rfl rfl H289 ?_
                        clear H289; intro a290 H290
                        refine plain (y_fieldB rfl z_field36_0 rfl (by first | (simp only [Nat.zero_add, Nat.add_zero, Nat.reduceAdd]; rfl) | rfl)) rfl rfl rfl H290 ?_
                        clear H290; intro a291 H291
                        refine plain (y_loadB rfl z_agg3 rfl (by repeat (first | exact Mh | apply Mt)) q_ix_c8b32b32c4_0) rfl rfl rfl H291 ?_
                        clear H291; intro a292 H292
                        refine plain (y_ixL rfl Try.underlying23 z_size3 rfl rfl (by omega) (by omega) rfl) rfl rfl rfl H292 ?_
                        clear H292; intro a293 H293
                        refine plain (y_loadB rfl z_agg3 rfl (by repeat (first | exact Mh | apply Mt)) (i64_getI nx _ (by omega) (by omega))) rfl rfl rfl H293 ?_
                        clear H293; intro a294 H294
                        refine plain (y_add rfl rfl rfl (by first | exact w64 (by omega) (by omega) | rfl)) rfl rfl rfl H294 ?_
                        clear H294; intro a295 H295
                        refine plain (y_ixL rfl Try.underlying23 z_size3 rfl rfl (by omega) (by omega) rfl) rfl rfl rfl H295 ?_
                        clear H295; intro a296 H296
                        refine st_store1 rfl z_size3 rfl rfl rfl (by repeat (first | exact Uh | apply Ut)) (by rw [List.length_map]; omega) rfl rfl H296 ?_
                        clear H296; intro wx297 H297
                        refine fin ?_
                        refine inb_n ?_
                        refine cut_n ?_
                        first | (have hz := hn; have hbb : (nx.map i64).set (0 + (Pool.next ⟨size, L⟩ nx (l.getD k Pool.Act.zero).n).2.1.tx.src.toNat * 1) (.int .i64 (nx.getD (Pool.next ⟨size, L⟩ nx (l.getD k Pool.Act.zero).n).2.1.tx.src.toNat 0 + 1)) = (Pool.bump nx (Pool.next ⟨size, L⟩ nx (l.getD k Pool.Act.zero).n).2.1).map i64 := i64_set _ _ _; rw [hbb] at H297; exact ⟨(Pool.next ⟨size, L⟩ nx (l.getD k Pool.Act.zero).n).1.L, (Pool.bump nx (Pool.next ⟨size, L⟩ nx (l.getD k Pool.Act.zero).n).2.1), v1, vx1, ⟨hg.next' nx _, hpw.1, by rw [Pool.bump_len]; exact h64⟩, (H297.only (is := [It.row 38 76 vx1 (Pool.next ⟨size, L⟩ nx (l.getD k Pool.Act.zero).n).1.L.length (Pool.wc (Pool.next ⟨size, L⟩ nx (l.getD k Pool.Act.zero).n).1.L), It.blk b41 32 [i64 size, vx1], It.row 38 76 v1 (Pool.next ⟨size, L⟩ nx (l.getD k Pool.Act.zero).n).1.L.length (Pool.wc (Pool.next ⟨size, L⟩ nx (l.getD k Pool.Act.zero).n).1.L), It.blk bp 63 [i64 size, v1], It.blk b44 23 [.slice (some ⟨b43, 0, none⟩) 64 64], It.blk b43 3 ((Pool.bump nx (Pool.next ⟨size, L⟩ nx (l.getD k Pool.Act.zero).n).2.1).map i64)]) (.cons (by repeat (first | exact Ph | apply Pt)) (.cons (by repeat (first | exact Ph | apply Pt)) (.cons (by repeat (first | exact Ph | apply Pt)) (.cons (by repeat (first | exact Ph | apply Pt)) (.cons (by repeat (first | exact Ph | apply Pt)) (.cons (by repeat (first | exact Ph | apply Pt)) (.nil _)))))))).weak ⟨rfl, rfl, rfl, rfl, rfl, trivial⟩ rfl⟩) | (have hz := hno; exact ⟨(Pool.next ⟨size, L⟩ nx (l.getD k Pool.Act.zero).n).1.L, nx, v1, vx1, ⟨hg.next' nx _, hpw.1, h64⟩, (H297.only (is := [It.row 38 76 vx1 (Pool.next ⟨size, L⟩ nx (l.getD k Pool.Act.zero).n).1.L.length (Pool.wc (Pool.next ⟨size, L⟩ nx (l.getD k Pool.Act.zero).n).1.L), It.blk b41 32 [i64 size, vx1], It.row 38 76 v1 (Pool.next ⟨size, L⟩ nx (l.getD k Pool.Act.zero).n).1.L.length (Pool.wc (Pool.next ⟨size, L⟩ nx (l.getD k Pool.Act.zero).n).1.L), It.blk bp 63 [i64 size, v1], It.blk b44 23 [.slice (some ⟨b43, 0, none⟩) 64 64], It.blk b43 3 (nx.map i64)]) (.cons (by repeat (first | exact Ph | apply Pt)) (.cons (by repeat (first | exact Ph | apply Pt)) (.cons (by repeat (first | exact Ph | apply Pt)) (.cons (by repeat (first | exact Ph | apply Pt)) (.cons (by repeat (first | exact Ph | apply Pt)) (.cons (by repeat (first | exact Ph | apply Pt)) (.nil _)))))))).weak ⟨rfl, rfl, rfl, rfl, rfl, trivial⟩ rfl⟩) | (have hz := hk3; exact ⟨(L.filter fun w => !Pool.isOld (l.getD k Pool.Act.zero).n w), nx, v1, vx1, ⟨hg.old' _, hL.filter _, h64⟩, (H297.only (is := [It.row 38 76 vx1 (L.filter fun w => !Pool.isOld (l.getD k Pool.Act.zero).n w).length (Pool.wc (L.filter fun w => !Pool.isOld (l.getD k Pool.Act.zero).n w)), It.blk b41 32 [i64 size, vx1], It.row 38 76 v1 (L.filter fun w => !Pool.isOld (l.getD k Pool.Act.zero).n w).length (Pool.wc (L.filter fun w => !Pool.isOld (l.getD k Pool.Act.zero).n w)), It.blk bp 63 [i64 size, v1], It.blk b44 23 [.slice (some ⟨b43, 0, none⟩) 64 64], It.blk b43 3 (nx.map i64)]) (.cons (by repeat (first | exact Ph | apply Pt)) (.cons (by repeat (first | exact Ph | apply Pt)) (.cons (by repeat (first | exact Ph | apply Pt)) (.cons (by repeat (first | exact Ph | apply Pt)) (.cons (by repeat (first | exact Ph | apply Pt)) (.cons (by repeat (first | exact Ph | apply Pt)) (.nil _)))))))).weak ⟨rfl, rfl, rfl, rfl, rfl, trivial⟩ rfl⟩) | (exact ⟨(Pool.put ⟨size, L⟩ (l.getD k Pool.Act.zero).w).1.L, nx, v1, vx1, ⟨hg.put' _, hpw.1, h64⟩, (H297.only (is := [It.row 38 76 vx1 (Pool.put ⟨size, L⟩ (l.getD k Pool.Act.zero).w).1.L.length (Pool.wc (Pool.put ⟨size, L⟩ (l.getD k Pool.Act.zero).w).1.L), It.blk b41 32 [i64 size, vx1], It.row 38 76 v1 (Pool.put ⟨size, L⟩ (l.getD k Pool.Act.zero).w).1.L.length (Pool.wc (Pool.put ⟨size, L⟩ (l.getD k Pool.Act.zero).w).1.L), It.blk bp 63 [i64 size, v1], It.blk b44 23 [.slice (some ⟨b43, 0, none⟩) 64 64], It.blk b43 3 (nx.map i64)]) (.cons (by repeat (first | exact Ph | apply Pt)) (.cons (by repeat (first | exact Ph | apply Pt)) (.cons (by repeat (first | exact Ph | apply Pt)) (.cons (by repeat (first | exact Ph | apply Pt)) (.cons (by repeat (first | exact Ph | apply Pt)) (.cons (by repeat (first | exact Ph | apply Pt)) (.nil _)))))))).weak ⟨rfl, rfl, rfl, rfl, rfl, trivial⟩ rfl⟩)
                      · skip
                        try simp only [decide_eq_true_eq, decide_eq_false_iff_not, Bool.not_eq_true', Bool.not_eq_false', Bool.and_eq_true, Bool.not_eq_true, Bool.not_eq_false] at hc288
                        have hno := hc288
                        refine wp_skip ?_
                        refine inb_n ?_
                        refine cut_n ?_
                        first | (have hz := hn; have hbb : (nx.map i64).set (0 + (Pool.next ⟨size, L⟩ nx (l.getD k Pool.Act.zero).n).2.1.tx.src.toNat * 1) (.int .i64 (nx.getD (Pool.next ⟨size, L⟩ nx (l.getD k Pool.Act.zero).n).2.1.tx.src.toNat 0 + 1)) = (Pool.bump nx (Pool.next ⟨size, L⟩ nx (l.getD k Pool.Act.zero).n).2.1).map i64 := i64_set _ _ _; rw [hbb] at H287; exact ⟨(Pool.next ⟨size, L⟩ nx (l.getD k Pool.Act.zero).n).1.L, (Pool.bump nx (Pool.next ⟨size, L⟩ nx (l.getD k Pool.Act.zero).n).2.1), v1, vx1, ⟨hg.next' nx _, hpw.1, by rw [Pool.bump_len]; exact h64⟩, (H287.only (is := [It.row 38 76 vx1 (Pool.next ⟨size, L⟩ nx (l.getD k Pool.Act.zero).n).1.L.length (Pool.wc (Pool.next ⟨size, L⟩ nx (l.getD k Pool.Act.zero).n).1.L), It.blk b41 32 [i64 size, vx1], It.row 38 76 v1 (Pool.next ⟨size, L⟩ nx (l.getD k Pool.Act.zero).n).1.L.length (Pool.wc (Pool.next ⟨size, L⟩ nx (l.getD k Pool.Act.zero).n).1.L), It.blk bp 63 [i64 size, v1], It.blk b44 23 [.slice (some ⟨b43, 0, none⟩) 64 64], It.blk b43 3 ((Pool.bump nx (Pool.next ⟨size, L⟩ nx (l.getD k Pool.Act.zero).n).2.1).map i64)]) (.cons (by repeat (first | exact Ph | apply Pt)) (.cons (by repeat (first | exact Ph | apply Pt)) (.cons (by repeat (first | exact Ph | apply Pt)) (.cons (by repeat (first | exact Ph | apply Pt)) (.cons (by repeat (first | exact Ph | apply Pt)) (.cons (by repeat (first | exact Ph | apply Pt)) (.nil _)))))))).weak ⟨rfl, rfl, rfl, rfl, rfl, trivial⟩ rfl⟩) | (have hz := hno; exact ⟨(Pool.next ⟨size, L⟩ nx (l.getD k Pool.Act.zero).n).1.L, nx, v1, vx1, ⟨hg.next' nx _, hpw.1, h64⟩, (H287.only (is := [It.row 38 76 vx1 (Pool.next ⟨size, L⟩ nx (l.getD k Pool.Act.zero).n).1.L.length (Pool.wc (Pool.next ⟨size, L⟩ nx (l.getD k Pool.Act.zero).n).1.L), It.blk b41 32 [i64 size, vx1], It.row 38 76 v1 (Pool.next ⟨size, L⟩ nx (l.getD k Pool.Act.zero).n).1.L.length (Pool.wc (Pool.next ⟨size, L⟩ nx (l.getD k Pool.Act.zero).n).1.L), It.blk bp 63 [i64 size, v1], It.blk b44 23 [.slice (some ⟨b43, 0, none⟩) 64 64], It.blk b43 3 (nx.map i64)]) (.cons (by repeat (first | exact Ph | apply Pt)) (.cons (by repeat (first | exact Ph | apply Pt)) (.cons (by repeat (first | exact Ph | apply Pt)) (.cons (by repeat (first | exact Ph | apply Pt)) (.cons (by repeat (first | exact Ph | apply Pt)) (.cons (by repeat (first | exact Ph | apply Pt)) (.nil _)))))))).weak ⟨rfl, rfl, rfl, rfl, rfl, trivial⟩ rfl⟩) | (have hz := hk3; exact ⟨(L.filter fun w => !Pool.isOld (l.getD k Pool.Act.zero).n w), nx, v1, vx1, ⟨hg.old' _, hL.filter _, h64⟩, (H287.only (is := [It.row 38 76 vx1 (L.filter fun w => !Pool.isOld (l.getD k Pool.Act.zero).n w).length (Pool.wc (L.filter fun w => !Pool.isOld (l.getD k Pool.Act.zero).n w)), It.blk b41 32 [i64 size, vx1], It.row 38 76 v1 (L.filter fun w => !Pool.isOld (l.getD k Pool.Act.zero).n w).length (Pool.wc (L.filter fun w => !Pool.isOld (l.getD k Pool.Act.zero).n w)), It.blk bp 63 [i64 size, v1], It.blk b44 23 [.slice (some ⟨b43, 0, none⟩) 64 64], It.blk b43 3 (nx.map i64)]) (.cons (by repeat (first | exact Ph | apply Pt)) (.cons (by repeat (first | exact Ph | apply Pt)) (.cons (by repeat (first | exact Ph | apply Pt)) (.cons (by repeat (first | exact Ph | apply Pt)) (.cons (by repeat (first | exact Ph | apply Pt)) (.cons (by repeat (first | exact Ph | apply Pt)) (.nil _)))))))).weak ⟨rfl, rfl, rfl, rfl, rfl, trivial⟩ rfl⟩) | (exact ⟨(Pool.put ⟨size, L⟩ (l.getD k Pool.Act.zero).w).1.L, nx, v1, vx1, ⟨hg.put' _, hpw.1, h64⟩, (H287.only (is := [It.row 38 76 vx1 (Pool.put ⟨size, L⟩ (l.getD k Pool.Act.zero).w).1.L.length (Pool.wc (Pool.put ⟨size, L⟩ (l.getD k Pool.Act.zero).w).1.L), It.blk b41 32 [i64 size, vx1], It.row 38 76 v1 (Pool.put ⟨size, L⟩ (l.getD k Pool.Act.zero).w).1.L.length (Pool.wc (Pool.put ⟨size, L⟩ (l.getD k Pool.Act.zero).w).1.L), It.blk bp 63 [i64 size, v1], It.blk b44 23 [.slice (some ⟨b43, 0, none⟩) 64 64], It.blk b43 3 (nx.map i64)]) (.cons (by repeat (first | exact Ph | apply Pt)) (.cons (by repeat (first | exact Ph | apply Pt)) (.cons (by repeat (first | exact Ph | apply Pt)) (.cons (by repeat (first | exact Ph | apply Pt)) (.cons (by repeat (first | exact Ph | apply Pt)) (.cons (by repeat (first | exact Ph | apply Pt)) (.nil _)))))))).weak ⟨rfl, rfl, rfl, rfl, rfl, trivial⟩ rfl⟩)
          · clear H101; intro a298 wx298 hI298
            obtain ⟨L1, nx1, v1, vx1, ⟨hg1, hL1, h641⟩, H298⟩ := hI298
            refine then_n ?_
            refine wp_seq ?_
            obtain ⟨A6, c6, rfl, hR6, hm6⟩ := row_shape (v := vx1) H298.sep (by repeat (first | exact Mh | apply Mt))
            have hlen1 : L1.length ≤ 1000 := by have := hg1.few; omega
            refine hreg _ (fun _ h => h) (by kernel_rfl) H298 ?_
            clear H298; intro wx299 H299
            refine htake 0 rfl (by kernel_rfl) (y_move rfl rfl) rfl rfl rfl (fun _ h => (h.sub (by first | exact S0 | exact S1 | repeat (first | exact S1 | exact S0 | apply S2 | apply S3)))) H299 ?_
            clear H299; intro a300 H300
            refine htake 2 rfl (by kernel_rfl) (y_move rfl rfl) rfl rfl rfl (fun _ h => (h.sub (by first | exact S0 | exact S1 | repeat (first | exact S1 | exact S0 | apply S2 | apply S3)))) H300 ?_
            clear H300; intro a301 H301
            refine htake 3 rfl (by kernel_rfl) (y_nilCheck rfl rfl) rfl rfl rfl (fun _ h => (h.sub (by first | exact S0 | exact S1 | repeat (first | exact S1 | exact S0 | apply S2 | apply S3)))) H301 ?_
            clear H301; intro a302 H302
            refine htake 4 rfl (by kernel_rfl) (y_fieldB rfl z_field32_1 rfl (by first | (simp only [Nat.zero_add, Nat.add_zero, Nat.reduceAdd]; rfl) | rfl)) rfl rfl rfl (fun _ h => (h.sub (by first | exact S0 | exact S1 | repeat (first | exact S1 | exact S0 | apply S2 | apply S3)))) H302 ?_
            clear H302; intro a303 H303
            refine htake 5 rfl (by kernel_rfl) (y_loadB rfl z_agg30 rfl (by repeat (first | exact Mh | apply Mt)) q_ix_c2_1) rfl rfl rfl (fun _ h => (h.sub (by first | exact S0 | exact S1 | repeat (first | exact S1 | exact S0 | apply S2 | apply S3)))) H303 ?_
            clear H303; intro a304 H304
            refine hgo 1 rfl (by kernel_rfl) ?_
            refine st_call rfl z_call18 rfl rfl rfl rfl H304 (pall L1 hL1 size bp v1 hlen1 (H304.sep.all _ (by repeat (first | exact Mh | apply Mt))) (H304.sep.all _ (by repeat (first | exact Mh | apply Mt)))) ?_
            clear H304; intro v305 l305 a305 wx305 hf305 H305
            obtain rfl := hf305
            simp only [List.cons_append, List.nil_append] at H305
            obtain ⟨ArZ, crZ, hvrZ, hRrZ, hmrZ⟩ := row_shape (v := v305) H305.sep (by repeat (first | exact Mh | apply Mt))
            subst hvrZ
            refine hfinA H305.sep ?_
            refine hgo 6 rfl (by kernel_rfl) ?_
            refine st_callg rfl z_call12 rfl rfl rfl rfl H305 (xsame L1 hL1 ArZ A6 crZ c6 hlen1 (Rd.ofSep (rd_row (by repeat (first | exact Mh | apply Mt))) H305.sep) (Rd.ofSep (rd_row (by repeat (first | exact Mh | apply Mt))) H305.sep)) ?_
            clear H305; intro a306 wx306 H306
            refine hfinA H306.sep ?_
            refine htake 7 rfl (by kernel_rfl) (y_not rfl rfl) rfl rfl rfl (fun _ h => (h.sub (by first | exact S0 | exact S1 | repeat (first | exact S1 | exact S0 | apply S2 | apply S3)))) H306 ?_
            clear H306; intro a307 H307
            refine htake 8 rfl (by kernel_rfl) (y_move rfl rfl) rfl rfl rfl (fun _ h => (h.sub (by first | exact S0 | exact S1 | repeat (first | exact S1 | exact S0 | apply S2 | apply S3)))) H307 ?_
            clear H307; intro a308 H308
            refine htake 9 rfl (by kernel_rfl) (y_move rfl rfl) rfl rfl rfl (fun _ h => (h.sub (by first | exact S0 | exact S1 | repeat (first | exact S1 | exact S0 | apply S2 | apply S3)))) H308 ?_
            clear H308; intro a309 H309
            refine htake 11 rfl (by kernel_rfl) (y_move rfl rfl) rfl rfl rfl (fun _ h => (h.sub (by first | exact S0 | exact S1 | repeat (first | exact S1 | exact S0 | apply S2 | apply S3)))) H309 ?_
            clear H309; intro a310 H310
            refine htake 12 rfl (by kernel_rfl) (y_nilCheck rfl rfl) rfl rfl rfl (fun _ h => (h.sub (by first | exact S0 | exact S1 | repeat (first | exact S1 | exact S0 | apply S2 | apply S3)))) H310 ?_
            clear H310; intro a311 H311
            refine htake 13 rfl (by kernel_rfl) (y_fieldB rfl z_field32_1 rfl (by first | (simp only [Nat.zero_add, Nat.add_zero, Nat.reduceAdd]; rfl) | rfl)) rfl rfl rfl (fun _ h => (h.sub (by first | exact S0 | exact S1 | repeat (first | exact S1 | exact S0 | apply S2 | apply S3)))) H311 ?_
            clear H311; intro a312 H312
            refine htake 14 rfl (by kernel_rfl) (y_loadB rfl z_agg30 rfl (by repeat (first | exact Mh | apply Mt)) q_ix_c2_1) rfl rfl rfl (fun _ h => (h.sub (by first | exact S0 | exact S1 | repeat (first | exact S1 | exact S0 | apply S2 | apply S3)))) H312 ?_
            clear H312; intro a313 H313
            refine htake 15 rfl (by kernel_rfl) (y_len rfl Try.underlying30 rfl) rfl rfl rfl (fun _ h => (h.sub (by first | exact S0 | exact S1 | repeat (first | exact S1 | exact S0 | apply S2 | apply S3)))) H313 ?_
            clear H313; intro a314 H314
            refine hgo 10 rfl (by kernel_rfl) ?_
            refine st_callg rfl z_call19 rfl rfl rfl rfl H314 (plen L1 hL1 size bp v1 hlen1 (H314.sep.all _ (by repeat (first | exact Mh | apply Mt))) (H314.sep.all _ (by repeat (first | exact Mh | apply Mt)))) ?_
            clear H314; intro a315 wx315 H315
            refine hfinA H315.sep ?_
            refine htake 16 rfl (by kernel_rfl) (y_neq rfl rfl rfl) rfl rfl rfl (fun _ h => (h.sub (by first | exact S0 | exact S1 | repeat (first | exact S1 | exact S0 | apply S2 | apply S3)))) H315 ?_
            clear H315; intro a316 H316
            refine htake 17 rfl (by kernel_rfl) (y_pick_f rfl rfl rfl) rfl rfl rfl (fun _ h => (h.sub (by first | exact S0 | exact S1 | repeat (first | exact S1 | exact S0 | apply S2 | apply S3)))) H316 ?_
            clear H316; intro a317 H317
            refine hdone (by kernel_rfl) ?_
            refine then_n ?_
            refine cnd H317 rfl (fun hc318 => ?_) (fun hc318 => ?_) -- cond 18
            · (try simp only [decide_eq_true_eq, decide_eq_false_iff_not, Bool.not_eq_true', Bool.not_eq_false', Bool.and_eq_true, Bool.not_eq_true, Bool.not_eq_false] at hc318); (exfalso; simp at hc318)
            · skip
              try simp only [decide_eq_true_eq, decide_eq_false_iff_not, Bool.not_eq_true', Bool.not_eq_false', Bool.and_eq_true, Bool.not_eq_true, Bool.not_eq_false] at hc318
              refine wp_skip ?_
              refine inb_n ?_
              refine then_n ?_
              refine reg ?_
              refine plain (y_move rfl rfl) rfl rfl rfl H317 ?_
              clear H317; intro a319 H319
              refine plain (y_add rfl rfl rfl (by first | exact w64 (by omega) (by omega) | rfl)) rfl rfl rfl H319 ?_
              clear H319; intro a320 H320
              refine plain (y_assign rfl rfl) rfl rfl rfl H320 ?_
              clear H320; intro a321 H321
              refine fin ?_
              refine then_n ?_
              refine ⟨(k + 1, (L1, (nx1, (v1, .slice A6 L1.length c6)))), by dsimp only; omega, ⟨by dsimp only; omega, hg1, hL1, h641⟩, (H321.only (is := [It.row 38 76 (.slice A6 L1.length c6) L1.length (Pool.wc L1), It.blk b41 32 [i64 size, (.slice A6 L1.length c6)], It.row 38 76 v1 L1.length (Pool.wc L1), It.blk bp 63 [i64 size, v1], It.blk b44 23 [.slice (some ⟨b43, 0, none⟩) 64 64], It.blk b43 3 (nx1.map i64)]) (.cons (by repeat (first | exact Ph | apply Pt)) (.cons (by repeat (first | exact Ph | apply Pt)) (.cons (by repeat (first | exact Ph | apply Pt)) (.cons (by repeat (first | exact Ph | apply Pt)) (.cons (by repeat (first | exact Ph | apply Pt)) (.cons (by repeat (first | exact Ph | apply Pt)) (.nil _)))))))).weak ⟨rfl, rfl, rfl, rfl, fi rfl (by dsimp only; omega), trivial⟩ rfl⟩
        · skip
          try simp only [decide_eq_true_eq, decide_eq_false_iff_not, Bool.not_eq_true', Bool.not_eq_false', Bool.and_eq_true, Bool.not_eq_true, Bool.not_eq_false] at hc93
          refine wp_exit ?_
          refine then_x ?_
          refine then_x ?_
          refine inb_hit ?_
          refine then_n ?_
          refine wp_seq ?_
          refine reg ?_
          refine plain (y_assign rfl rfl) rfl rfl rfl H92 ?_
          clear H92; intro a322 H322
          refine fin ?_
          refine then_n ?_
          refine wp_ret ?_
          -- return 1
          refine ret1 rfl H322 rfl ?_
          exact ⟨_, [], rfl, ⟨rfl, rfl⟩, H322.sep.sub (List.nil_sublist _)⟩
    · first
      | fail
      | skip
        clear H87; intro H323
        try simp only [decide_eq_true_eq, decide_eq_false_iff_not, Bool.not_eq_true', Bool.not_eq_false', Bool.and_eq_true, Bool.not_eq_true, Bool.not_eq_false] at hg88
        refine skip rfl rfl rfl H323 ?_
        clear H323; intro a324 H324
        refine skip rfl rfl rfl H324 ?_
        clear H324; intro a325 H325
        refine plain (y_pick_f rfl rfl rfl) rfl rfl rfl H325 ?_
        clear H325; intro a326 H326
        refine fin ?_
        refine then_n ?_
        refine cnd_f H326 rfl ?_
        refine wp_exit ?_
        refine then_x ?_
        refine then_x ?_
        refine inb_hit ?_
        refine then_n ?_
        refine wp_seq ?_
        refine reg ?_
        refine plain (y_assign rfl rfl) rfl rfl rfl H326 ?_
        clear H326; intro a328 H328
        refine fin ?_
        refine then_n ?_
        refine wp_ret ?_
        -- return 2
        refine ret1 rfl H328 rfl ?_
        exact ⟨_, [], rfl, ⟨rfl, rfl⟩, H328.sep.sub (List.nil_sublist _)⟩
set_option maxRecDepth 100000 in
set_option maxHeartbeats 1000000 in
theorem poolDoes0 (size : Int) (h1 : ¬ (1 ≤ size ∧ size ≤ 256)) (l : List Pool.Act) (A : Option Addr) (ca : Nat) (hl0 : l.length ≤ 9223372036854775807) (wl : ∀ z ∈ l, Pool.Act.Wf z) (ns : List Int) (B : Option Addr) (cb : Nat) (hn0 : ns.length ≤ 9223372036854775807) {w : World} (hA : Rd w A (Pool.acs l)) (hB : Rd w B (ns.map i64)) : Calls Try.prog 3 #[.int .i64 size, .slice A l.length ca, .slice B ns.length cb] w (Gives (.bool true) [] w) := by
  have lz32 : (List.replicate 32 (0 : UInt8)).length = 32 := List.length_replicate
  refine enterL (args := [.int .i64 size, .slice A l.length ca, .slice B ns.length cb]) Try.func3 rfl rfl (l := []) (Sep.refl _) ?_
  intro a0 H0
  refine wp_seq ?_
  refine reg ?_
  refine plain (y_assign rfl rfl) rfl rfl rfl H0 ?_
  clear H0; intro a1 H1
  refine fin ?_
  refine then_n ?_
  refine wp_seq ?_
  refine reg ?_
  refine plain (y_move rfl rfl) rfl rfl rfl H1 ?_
  clear H1; intro a2 H2
  refine st_callg rfl z_call8 rfl rfl rfl rfl H2 (pnewBad size h1 _) ?_
  clear H2; intro a3 wx3 H3
  refine plain (y_move rfl rfl) rfl rfl rfl H3 ?_
  clear H3; intro a4 H4
  refine plain (y_extract rfl rfl rfl) rfl rfl rfl H4 ?_
  clear H4; intro a5 H5
  refine plain (y_extract rfl rfl rfl) rfl rfl rfl H5 ?_
  clear H5; intro a6 H6
  refine plain (y_assign rfl rfl) rfl rfl rfl H6 ?_
  clear H6; intro a7 H7
  refine plain (y_assign rfl rfl) rfl rfl rfl H7 ?_
  clear H7; intro a8 H8
  refine fin ?_
  refine then_n ?_
  refine wp_seq ?_
  refine wp_seq ?_
  refine reg ?_
  refine plain (y_move rfl rfl) rfl rfl rfl H8 ?_
  clear H8; intro a9 H9
  refine plain (y_eql rfl rfl rfl) rfl rfl rfl H9 ?_
  clear H9; intro a10 H10
  refine plain (y_move rfl rfl) rfl rfl rfl H10 ?_
  clear H10; intro a11 H11
  refine plain (y_lss rfl rfl rfl) rfl rfl rfl H11 ?_
  clear H11; intro a12 H12
  refine plain (y_move rfl rfl) rfl rfl rfl H12 ?_
  clear H12; intro a13 H13
  refine Sx.part (d := 33) H13 rfl (fun hg14 => ?_) (fun hg14 => ?_)
  · first
    | fail
    | skip
      clear H13; intro H15
      try simp only [decide_eq_true_eq, decide_eq_false_iff_not, Bool.not_eq_true', Bool.not_eq_false', Bool.and_eq_true, Bool.not_eq_true, Bool.not_eq_false] at hg14
      refine skip rfl rfl rfl H15 ?_
      clear H15; intro a16 H16
      refine skip rfl rfl rfl H16 ?_
      clear H16; intro a17 H17
      refine plain (y_pick_t rfl rfl rfl) rfl rfl rfl H17 ?_
      clear H17; intro a18 H18
      refine plain (y_bneq rfl Try.underlying4 rfl rfl) rfl rfl rfl H18 ?_
      clear H18; intro a19 H19
      refine plain (y_move rfl rfl) rfl rfl rfl H19 ?_
      clear H19; intro a20 H20
      have H22 := H20.know (d := 38) (v := .bool false) rfl (congrArg Value.bool (by first | fail | rfl | (simp; done) | (simp; omega)))
      clear H20
      refine plain (y_move rfl rfl) rfl rfl rfl H22 ?_
      clear H22; intro a23 H23
      refine plain (y_peql rfl Try.underlying24 rfl rfl) rfl rfl rfl H23 ?_
      clear H23; intro a24 H24
      refine plain (y_move rfl rfl) rfl rfl rfl H24 ?_
      clear H24; intro a25 H25
      refine plain (y_neq rfl rfl rfl) rfl rfl rfl H25 ?_
      clear H25; intro a26 H26
      refine plain (y_bneq rfl Try.underlying4 rfl rfl) rfl rfl rfl H26 ?_
      clear H26; intro a27 H27
      refine plain (y_pick_f rfl rfl rfl) rfl rfl rfl H27 ?_
      clear H27; intro a28 H28
      refine plain (y_move rfl rfl) rfl rfl rfl H28 ?_
      clear H28; intro a29 H29
      have H31 := H29.know (d := 45) (v := .bool false) rfl (congrArg Value.bool (by first | fail | rfl | (simp; done) | (simp; omega)))
      clear H29
      refine st_callg rfl z_call9 rfl rfl rfl rfl H31 (pawake _) ?_
      clear H31; intro a32 wx32 H32
      refine plain (y_not rfl rfl) rfl rfl rfl H32 ?_
      clear H32; intro a33 H33
      refine plain (y_pick_f rfl rfl rfl) rfl rfl rfl H33 ?_
      clear H33; intro a34 H34
      refine fin ?_
      refine then_n ?_
      refine cnd_f H34 rfl ?_
      refine wp_skip ?_
      refine then_n ?_
      refine wp_seq ?_
      refine wp_seq ?_
      refine reg ?_
      refine plain (y_move rfl rfl) rfl rfl rfl H34 ?_
      clear H34; intro a36 H36
      refine plain (y_peql rfl Try.underlying24 rfl rfl) rfl rfl rfl H36 ?_
      clear H36; intro a37 H37
      refine fin ?_
      refine then_n ?_
      refine cnd_t H37 rfl ?_
      refine wp_seq ?_
      refine reg ?_
      refine plain (y_assign rfl rfl) rfl rfl rfl H37 ?_
      clear H37; intro a39 H39
      refine fin ?_
      refine then_n ?_
      refine wp_ret ?_
      refine then_r ?_
      -- return 1
      refine ret1 rfl H39 rfl ?_
      exact ⟨_, [], rfl, ⟨rfl, rfl⟩, H39.sep.sub (List.nil_sublist _)⟩
  · first
    | fail
    | skip
      clear H13; intro H40
      try simp only [decide_eq_true_eq, decide_eq_false_iff_not, Bool.not_eq_true', Bool.not_eq_false', Bool.and_eq_true, Bool.not_eq_true, Bool.not_eq_false] at hg14
      refine plain (y_move rfl rfl) rfl rfl rfl H40 ?_
      clear H40; intro a41 H41
      refine plain (y_gtr rfl rfl rfl) rfl rfl rfl H41 ?_
      clear H41; intro a42 H42
      refine plain (y_pick_f rfl rfl rfl) rfl rfl rfl H42 ?_
      clear H42; intro a43 H43
      refine plain (y_bneq rfl Try.underlying4 rfl rfl) rfl rfl rfl H43 ?_
      clear H43; intro a44 H44
      refine plain (y_move rfl rfl) rfl rfl rfl H44 ?_
      clear H44; intro a45 H45
      have H47 := H45.know (d := 38) (v := .bool false) rfl (congrArg Value.bool (by first | fail | rfl | (simp; done) | (simp; omega)))
      clear H45
      refine plain (y_move rfl rfl) rfl rfl rfl H47 ?_
      clear H47; intro a48 H48
      refine plain (y_peql rfl Try.underlying24 rfl rfl) rfl rfl rfl H48 ?_
      clear H48; intro a49 H49
      refine plain (y_move rfl rfl) rfl rfl rfl H49 ?_
      clear H49; intro a50 H50
      refine plain (y_neq rfl rfl rfl) rfl rfl rfl H50 ?_
      clear H50; intro a51 H51
      refine plain (y_bneq rfl Try.underlying4 rfl rfl) rfl rfl rfl H51 ?_
      clear H51; intro a52 H52
      refine plain (y_pick_f rfl rfl rfl) rfl rfl rfl H52 ?_
      clear H52; intro a53 H53
      refine plain (y_move rfl rfl) rfl rfl rfl H53 ?_
      clear H53; intro a54 H54
      have H56 := H54.know (d := 45) (v := .bool false) rfl (congrArg Value.bool (by first | fail | rfl | (simp; done) | (simp; omega)))
      clear H54
      refine st_callg rfl z_call9 rfl rfl rfl rfl H56 (pawake _) ?_
      clear H56; intro a57 wx57 H57
      refine plain (y_not rfl rfl) rfl rfl rfl H57 ?_
      clear H57; intro a58 H58
      refine plain (y_pick_f rfl rfl rfl) rfl rfl rfl H58 ?_
      clear H58; intro a59 H59
      refine fin ?_
      refine then_n ?_
      refine cnd_f H59 rfl ?_
      refine wp_skip ?_
      refine then_n ?_
      refine wp_seq ?_
      refine wp_seq ?_
      refine reg ?_
      refine plain (y_move rfl rfl) rfl rfl rfl H59 ?_
      clear H59; intro a61 H61
      refine plain (y_peql rfl Try.underlying24 rfl rfl) rfl rfl rfl H61 ?_
      clear H61; intro a62 H62
      refine fin ?_
      refine then_n ?_
      refine cnd_t H62 rfl ?_
      refine wp_seq ?_
      refine reg ?_
      refine plain (y_assign rfl rfl) rfl rfl rfl H62 ?_
      clear H62; intro a64 H64
      refine fin ?_
      refine then_n ?_
      refine wp_ret ?_
      refine then_r ?_
      -- return 2
      refine ret1 rfl H64 rfl ?_
      exact ⟨_, [], rfl, ⟨rfl, rfl⟩, H64.sep.sub (List.nil_sublist _)⟩
theorem poolDoes (size : Int) (l : List Pool.Act) (A : Option Addr) (ca : Nat) (hl0 : l.length ≤ 9223372036854775807) (wl : ∀ z ∈ l, Pool.Act.Wf z) (ns : List Int) (B : Option Addr) (cb : Nat) (hn0 : ns.length ≤ 9223372036854775807) {w : World} (hA : Rd w A (Pool.acs l)) (hB : Rd w B (ns.map i64)) : Calls Try.prog 3 #[.int .i64 size, .slice A l.length ca, .slice B ns.length cb] w (Gives (.bool true) [] w) := by
  by_cases h1 : 1 ≤ size ∧ size ≤ 256
  · exact poolDoes1 size h1 l A ca hl0 wl ns B cb hn0 hA hB
  · exact poolDoes0 size h1 l A ca hl0 wl ns B cb hn0 hA hB

end Go.Proofs.Ytbdkgmkaakoigaa.P_L2

set_option linter.unusedVariables false
set_option linter.unusedSimpArgs false
namespace Go.Proofs.Ytbdkgmkaakoigaa.P_Rd
open Go.Sx Go.RowKit

theorem rd_Tx {H : Type} {enc : TypeId × Value → H} {W : World} {sp : Nat → Bool} {held : Bool} {cs : List Value} (h : Trw enc Try.prog W sp held 36 cs) : ∃ (x : Txs.Tx), cs = Txs.Tx.cells x ∧ Txs.Tx.Wf x := by
  have hp := h.pieces Try.underlying36 [1, 1, 1, 1, 1, 1, 1, 1, 32, 32] (by kernel_rfl)
  obtain ⟨v0, e0, w0⟩ := (h.field Try.underlying36 0 rfl (o := 0) rfl (T := 3) rfl (k := 1) (by kernel_rfl)).i64 Try.underlying3
  obtain ⟨v1, e1, w1⟩ := (h.field Try.underlying36 1 rfl (o := 1) rfl (T := 3) rfl (k := 1) (by kernel_rfl)).i64 Try.underlying3
  obtain ⟨v2, e2, w2⟩ := (h.field Try.underlying36 2 rfl (o := 2) rfl (T := 3) rfl (k := 1) (by kernel_rfl)).i64 Try.underlying3
  obtain ⟨v3, e3, w3⟩ := (h.field Try.underlying36 3 rfl (o := 3) rfl (T := 3) rfl (k := 1) (by kernel_rfl)).i64 Try.underlying3
  obtain ⟨v4, e4, w4⟩ := (h.field Try.underlying36 4 rfl (o := 4) rfl (T := 9) rfl (k := 1) (by kernel_rfl)).str Try.underlying9
  obtain ⟨v5, e5⟩ := (h.field Try.underlying36 5 rfl (o := 5) rfl (T := 4) rfl (k := 1) (by kernel_rfl)).bool Try.underlying4
  obtain ⟨v6, e6, w6⟩ := (h.field Try.underlying36 6 rfl (o := 6) rfl (T := 3) rfl (k := 1) (by kernel_rfl)).i64 Try.underlying3
  obtain ⟨v7, e7, w7⟩ := (h.field Try.underlying36 7 rfl (o := 7) rfl (T := 3) rfl (k := 1) (by kernel_rfl)).i64 Try.underlying3
  obtain ⟨v8, e8, w8⟩ := (h.field Try.underlying36 8 rfl (o := 8) rfl (T := 34) rfl (k := 32) (by kernel_rfl)).bytes Try.underlying34 Try.underlying5 (by kernel_rfl) (by kernel_rfl)
  obtain ⟨v9, e9, w9⟩ := (h.field Try.underlying36 9 rfl (o := 40) rfl (T := 34) rfl (k := 32) (by kernel_rfl)).bytes Try.underlying34 Try.underlying5 (by kernel_rfl) (by kernel_rfl)
  refine ⟨⟨v0, v1, v2, v3, v4, v5, v6, v7, v8, v9⟩, ?_, w0, w1, w2, w3, w4, w6, w7, w8, w9⟩
  rw [hp]
  simp only [Sx.pieces, Nat.zero_add, Nat.reduceAdd, e0, e1, e2, e3, e4, e5, e6, e7, e8, e9]
  first | rfl | simp [Txs.Tx.cells]
theorem rd_Wait {H : Type} {enc : TypeId × Value → H} {W : World} {sp : Nat → Bool} {held : Bool} {cs : List Value} (h : Trw enc Try.prog W sp held 38 cs) : ∃ (x : Pool.Wait), cs = Pool.Wait.cells x ∧ Pool.Wait.Wf x := by
  have hp := h.pieces Try.underlying38 [72, 1, 1, 1, 1] (by kernel_rfl)
  obtain ⟨v0, e0, w0⟩ := rd_Tx (h.field Try.underlying38 0 rfl (o := 0) rfl (T := 36) rfl (k := 72) (by kernel_rfl))
  obtain ⟨v1, e1, w1⟩ := (h.field Try.underlying38 1 rfl (o := 72) rfl (T := 3) rfl (k := 1) (by kernel_rfl)).i64 Try.underlying3
  obtain ⟨v2, e2, w2⟩ := (h.field Try.underlying38 2 rfl (o := 73) rfl (T := 3) rfl (k := 1) (by kernel_rfl)).i64 Try.underlying3
  obtain ⟨v3, e3, w3⟩ := (h.field Try.underlying38 3 rfl (o := 74) rfl (T := 3) rfl (k := 1) (by kernel_rfl)).i64 Try.underlying3
  obtain ⟨v4, e4, w4⟩ := (h.field Try.underlying38 4 rfl (o := 75) rfl (T := 3) rfl (k := 1) (by kernel_rfl)).i64 Try.underlying3
  refine ⟨⟨v0, v1, v2, v3, v4⟩, ?_, w0, w1, w2, w3, w4⟩
  rw [hp]
  simp only [Sx.pieces, Nat.zero_add, Nat.reduceAdd, e0, e1, e2, e3, e4]
  first | rfl | (simp [Pool.Wait.cells, Txs.Tx.cells]; done) | (simp [Pool.Wait.cells, Txs.Tx.cells]; rfl)
theorem rd_PAct {H : Type} {enc : TypeId × Value → H} {W : World} {sp : Nat → Bool} {held : Bool} {cs : List Value} (h : Trw enc Try.prog W sp held 40 cs) : ∃ (x : Pool.Act), cs = Pool.Act.cells x ∧ Pool.Act.Wf x := by
  have hp := h.pieces Try.underlying40 [1, 1, 76] (by kernel_rfl)
  obtain ⟨v0, e0, w0⟩ := (h.field Try.underlying40 0 rfl (o := 0) rfl (T := 3) rfl (k := 1) (by kernel_rfl)).i64 Try.underlying3
  obtain ⟨v1, e1, w1⟩ := (h.field Try.underlying40 1 rfl (o := 1) rfl (T := 3) rfl (k := 1) (by kernel_rfl)).i64 Try.underlying3
  obtain ⟨v2, e2, w2⟩ := rd_Wait (h.field Try.underlying40 2 rfl (o := 2) rfl (T := 38) rfl (k := 76) (by kernel_rfl))
  refine ⟨⟨v0, v1, v2⟩, ?_, w0, w1, w2⟩
  rw [hp]
  simp only [Sx.pieces, Nat.zero_add, Nat.reduceAdd, e0, e1, e2]
  first | rfl | (simp [Pool.Act.cells, Pool.Wait.cells, Txs.Tx.cells]; done) | (simp [Pool.Act.cells, Pool.Wait.cells, Txs.Tx.cells]; rfl)
theorem rd_Int {H : Type} {enc : TypeId × Value → H} {W : World} {sp : Nat → Bool} {held : Bool} {cs : List Value} (h : Trw enc Try.prog W sp held 3 cs) : ∃ (x : Int), cs = (fun n : Int => [i64 n]) x ∧ Note.I64 x := Trw.i64 h Try.underlying3

end Go.Proofs.Ytbdkgmkaakoigaa.P_Rd
