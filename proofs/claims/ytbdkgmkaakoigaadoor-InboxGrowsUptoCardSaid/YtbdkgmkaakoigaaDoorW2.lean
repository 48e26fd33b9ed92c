/- Part of a proof about given Go functions: contracts of functions, or plain laws. -/
import Derived.Test.YtbdkgmkaakoigaaDoorInboxW
import Derived.Test.YtbdkgmkaakoigaaDoorSxK
import Derived.Test.YtbdkgmkaakoigaaDoorSxI
import Derived.Test.YtbdkgmkaakoigaaDoorInboxA
import Derived.Test.YtbdkgmkaakoigaaDoorSxTx
import Derived.Test.YtbdkgmkaakoigaaDoorProg
import Derived.Test.YtbdkgmkaakoigaaDoorW1
import Derived.Test.YtbdkgmkaakoigaaDoorInboxY
import Derived.Test.YtbdkgmkaakoigaaDoorInboxX
import Derived.Test.YtbdkgmkaakoigaaDoorSxTb
set_option linter.unusedVariables false
set_option linter.unusedSimpArgs false
namespace Go.Proofs.YtbdkgmkaakoigaaDoor.I_RMsg
open Go.Sx Go.RowKit Go.Proofs.YtbdkgmkaakoigaaDoor.I_Block Go.Proofs.YtbdkgmkaakoigaaDoor.I_Sum Go.Proofs.YtbdkgmkaakoigaaDoor.I_Ref Go.Proofs.YtbdkgmkaakoigaaDoor.I_RSum Go.Proofs.YtbdkgmkaakoigaaDoor.I_Num Go.Proofs.YtbdkgmkaakoigaaDoor.I_Lay Go.Proofs.YtbdkgmkaakoigaaDoor.I_Leaf Go.Proofs.YtbdkgmkaakoigaaDoor.I_Item Go.Proofs.YtbdkgmkaakoigaaDoor.I_RefI Go.Proofs.YtbdkgmkaakoigaaDoor.I_Eq

theorem z_zeroN33 : zeroL Tryd.prog 33 = some ((List.replicate 32 (0 : UInt8)).map u8) := by kernel_rfl
theorem z_size5 : sizeB Tryd.prog 5 = some 1 := by kernel_rfl
theorem z_size33 : sizeB Tryd.prog 33 = some 32 := by kernel_rfl
theorem q_one_b32 {t0 : List UInt8} : (t0.map u8).all (·.oneCell') = true := (one_u8 _)
theorem q_len_b32 {t0 : List UInt8} (h0 : t0.length = 32) : (t0.map u8).length = 32 := (len_e (k := 32) h0)
theorem q_spl_b32_0_b32 {t0 : List UInt8} {s0 : List UInt8} (h0 : t0.length = 32) (g0 : s0.length = 32) : spl (t0.map u8) 0 (s0.map u8) = s0.map u8 := (spl_a (z := 32) (len_e (k := 32) h0) (len_e (k := 32) g0))
theorem z_size49 : sizeB Tryd.prog 49 = some 35 := by kernel_rfl
theorem z_field49_3 : fieldB Tryd.prog 49 3 = some 34 := by kernel_rfl
theorem z_agg47 : aggB Tryd.prog 47 = some false := by kernel_rfl
theorem z_size51 : sizeB Tryd.prog 51 = some 4 := by kernel_rfl
theorem z_agg51 : aggB Tryd.prog 51 = some true := by kernel_rfl
theorem z_zeroN51 : zeroL Tryd.prog 51 = some ((.int .i64 0 :: (.int .i64 0 :: (.int .i64 0 :: (.string ⟨#[]⟩ :: []))))) := by kernel_rfl
theorem q_one_c4 {a0 a1 a2 a3 : Value} (o0 : a0.oneCell' = true) (o1 : a1.oneCell' = true) (o2 : a2.oneCell' = true) (o3 : a3.oneCell' = true) : (a0 :: a1 :: a2 :: a3 :: []).all (·.oneCell') = true := (one_c o0 (one_c o1 (one_c o2 (one_c o3 one_n))))
theorem q_len_c4 {a0 a1 a2 a3 : Value} : (a0 :: a1 :: a2 :: a3 :: []).length = 4 := (len_c (n := 3) (len_c (n := 2) (len_c (n := 1) (len_c (n := 0) len_n))))
theorem q_spl_c4_0_c4 {a0 a1 a2 a3 : Value} {b0 b1 b2 b3 : Value} : spl (a0 :: a1 :: a2 :: a3 :: []) 0 (b0 :: b1 :: b2 :: b3 :: []) = b0 :: b1 :: b2 :: b3 :: [] := (spl_a (z := 4) (len_c (n := 3) (len_c (n := 2) (len_c (n := 1) (len_c (n := 0) len_n)))) (len_c (n := 3) (len_c (n := 2) (len_c (n := 1) (len_c (n := 0) len_n)))))
theorem z_field51_0 : fieldB Tryd.prog 51 0 = some 0 := by kernel_rfl
theorem z_agg3 : aggB Tryd.prog 3 = some false := by kernel_rfl
theorem q_ix_c4_0 {a0 a1 a2 a3 : Value} : (a0 :: a1 :: a2 :: a3 :: [])[0]? = some a0 := ix_0
theorem q_ld_c4_0_4 {a0 a1 a2 a3 : Value} : ((a0 :: a1 :: a2 :: a3 :: []).drop 0).take 4 = a0 :: a1 :: a2 :: a3 :: [] := (ld_a (len_c (n := 3) (len_c (n := 2) (len_c (n := 1) (len_c (n := 0) len_n)))))
theorem z_field51_3 : fieldB Tryd.prog 51 3 = some 3 := by kernel_rfl
theorem z_agg9 : aggB Tryd.prog 9 = some false := by kernel_rfl
theorem q_ix_c4_3 {a0 a1 a2 a3 : Value} : (a0 :: a1 :: a2 :: a3 :: [])[3]? = some a3 := (ix_c (o := 2) (ix_c (o := 1) (ix_c (o := 0) ix_0)))
theorem z_field51_1 : fieldB Tryd.prog 51 1 = some 1 := by kernel_rfl
theorem q_ix_c4_1 {a0 a1 a2 a3 : Value} : (a0 :: a1 :: a2 :: a3 :: [])[1]? = some a1 := (ix_c (o := 0) ix_0)
theorem z_size9 : sizeB Tryd.prog 9 = some 1 := by kernel_rfl
theorem z_zero9 : zeroL Tryd.prog 9 = some ([.string ⟨#[]⟩]) := by kernel_rfl
theorem z_agg33 : aggB Tryd.prog 33 = some true := by kernel_rfl
theorem q_ld_b32_0_32 {t0 : List UInt8} (h0 : t0.length = 32) : ((t0.map u8).drop 0).take 32 = t0.map u8 := (ld_a (len_e (k := 32) h0))
theorem z_field49_0 : fieldB Tryd.prog 49 0 = some 0 := by kernel_rfl
theorem z_zeroN38 : zeroL Tryd.prog 38 = some ((.int .i64 0 :: (.string ⟨#[]⟩ :: (.int .i64 0 :: (List.replicate 32 (0 : UInt8)).map u8)))) := by kernel_rfl
theorem z_places38 : placesB Tryd.prog 38 = some [(0, 1), (1, 1), (2, 1), (3, 32)] := by kernel_rfl
theorem q_len_c3b32 {a0 a1 a2 : Value} {t3 : List UInt8} (h3 : t3.length = 32) : (a0 :: a1 :: a2 :: t3.map u8).length = 35 := (len_c (n := 34) (len_c (n := 33) (len_c (n := 32) (len_e (k := 32) h3))))
theorem q_spl_c3b32_0_c1 {a0 a1 a2 : Value} {t3 : List UInt8} {b0 : Value} : spl (a0 :: a1 :: a2 :: t3.map u8) 0 (b0 :: []) = b0 :: a1 :: a2 :: t3.map u8 := spl_0
theorem q_spl_c3b32_1_c1 {a0 a1 a2 : Value} {t3 : List UInt8} {b0 : Value} : spl (a0 :: a1 :: a2 :: t3.map u8) 1 (b0 :: []) = a0 :: b0 :: a2 :: t3.map u8 := (spl_c (o := 0) spl_0)
theorem q_spl_c3b32_2_c1 {a0 a1 a2 : Value} {t3 : List UInt8} {b0 : Value} : spl (a0 :: a1 :: a2 :: t3.map u8) 2 (b0 :: []) = a0 :: a1 :: b0 :: t3.map u8 := (spl_c (o := 1) (spl_c (o := 0) spl_0))
theorem q_spl_c3b32_3_b32 {a0 a1 a2 : Value} {t3 : List UInt8} {s0 : List UInt8} (h3 : t3.length = 32) (g0 : s0.length = 32) : spl (a0 :: a1 :: a2 :: t3.map u8) 3 (s0.map u8) = a0 :: a1 :: a2 :: s0.map u8 := (spl_c (o := 2) (spl_c (o := 1) (spl_c (o := 0) (spl_a (z := 32) (len_e (k := 32) h3) (len_e (k := 32) g0)))))
theorem z_size38 : sizeB Tryd.prog 38 = some 35 := by kernel_rfl
theorem z_zero38 : zeroL Tryd.prog 38 = some ([.int .i64 0, .string ⟨#[]⟩, .int .i64 0, .int .u8 0, .int .u8 0, .int .u8 0, .int .u8 0, .int .u8 0, .int .u8 0, .int .u8 0, .int .u8 0, .int .u8 0, .int .u8 0, .int .u8 0, .int .u8 0, .int .u8 0, .int .u8 0, .int .u8 0, .int .u8 0, .int .u8 0, .int .u8 0, .int .u8 0, .int .u8 0, .int .u8 0, .int .u8 0, .int .u8 0, .int .u8 0, .int .u8 0, .int .u8 0, .int .u8 0, .int .u8 0, .int .u8 0, .int .u8 0, .int .u8 0, .int .u8 0]) := by kernel_rfl
theorem z_slice22 : sliceB Tryd.prog 22 = some (38, 35, 64) := by kernel_rfl
theorem z_notint22 : notIntB Tryd.prog 22 = true := by kernel_rfl

end Go.Proofs.YtbdkgmkaakoigaaDoor.I_RMsg

set_option linter.unusedVariables false
set_option linter.unusedSimpArgs false
namespace Go.Proofs.YtbdkgmkaakoigaaDoor.I_Same
open Go.Sx Go.RowKit Go.Proofs.YtbdkgmkaakoigaaDoor.I_Block Go.Proofs.YtbdkgmkaakoigaaDoor.I_Sum Go.Proofs.YtbdkgmkaakoigaaDoor.I_Ref Go.Proofs.YtbdkgmkaakoigaaDoor.I_RSum Go.Proofs.YtbdkgmkaakoigaaDoor.I_Num Go.Proofs.YtbdkgmkaakoigaaDoor.I_Lay Go.Proofs.YtbdkgmkaakoigaaDoor.I_Leaf Go.Proofs.YtbdkgmkaakoigaaDoor.I_Item Go.Proofs.YtbdkgmkaakoigaaDoor.I_RefI Go.Proofs.YtbdkgmkaakoigaaDoor.I_Eq

theorem z_size38 : sizeB Tryd.prog 38 = some 35 := by kernel_rfl
theorem z_agg38 : aggB Tryd.prog 38 = some true := by kernel_rfl

set_option maxRecDepth 100000 in
set_option maxHeartbeats 1000000 in
theorem rsame (p q : List Inbox.Entry) (hp : ∀ e ∈ p, e.acc.length = 32) (hq : ∀ e ∈ q, e.acc.length = 32) (A B : Option Addr) (m n c e : Nat) (hm : m = p.length) (hn : n = q.length) (hlp : p.length ≤ 9223372036854775807) (hlq : q.length ≤ 9223372036854775807) {w : World} (hA : Rd w A (Inbox.ec p)) (hB : Rd w B (Inbox.ec q)) : Calls Tryd.prog 12 #[.slice A m c, .slice B n e] w (Gives (.bool (decide (p = q))) [] w) := by
  subst hm
  subst hn
  have lz32 : (List.replicate 32 (0 : UInt8)).length = 32 := List.length_replicate
  refine enterL (args := [.slice A p.length c, .slice B q.length e]) Tryd.func12 rfl rfl (l := []) (Sep.refl _) ?_
  intro a0 H0
  refine wp_seq ?_
  refine reg ?_
  refine plain (y_assign rfl rfl) rfl rfl rfl H0 ?_
  clear H0; intro a1 H1
  refine fin ?_
  refine then_n ?_
  refine wp_seq ?_
  refine wp_seq ?_
  refine reg ?_
  refine plain (y_move rfl rfl) rfl rfl rfl H1 ?_
  clear H1; intro a2 H2
  refine plain (y_len rfl Tryd.underlying22 rfl) rfl rfl rfl H2 ?_
  clear H2; intro a3 H3
  refine plain (y_move rfl rfl) rfl rfl rfl H3 ?_
  clear H3; intro a4 H4
  refine plain (y_len rfl Tryd.underlying22 rfl) rfl rfl rfl H4 ?_
  clear H4; intro a5 H5
  refine plain (y_neq rfl rfl rfl) rfl rfl rfl H5 ?_
  clear H5; intro a6 H6
  refine fin ?_
  refine then_n ?_
  refine cnd H6 rfl (fun hc7 => ?_) (fun hc7 => ?_) -- cond 1
  · skip
    try simp only [decide_eq_true_eq, decide_eq_false_iff_not, Bool.not_eq_true', Bool.not_eq_false', Bool.and_eq_true, Bool.not_eq_true, Bool.not_eq_false] at hc7
    refine wp_seq ?_
    refine reg ?_
    refine plain (y_assign rfl rfl) rfl rfl rfl H6 ?_
    clear H6; intro a8 H8
    refine fin ?_
    refine then_n ?_
    refine wp_ret ?_
    refine then_r ?_
    -- return 1
    refine ret1 rfl H8 rfl ?_
    refine ⟨_, [], rfl, ⟨?_, rfl⟩, H8.sep.sub (List.nil_sublist _)⟩
    first | exact congrArg Value.bool (decide_eq_false (fun e => by subst e; omega)).symm | exact congrArg Value.bool (decide_eq_false (fun e => by subst e; exact absurd rfl (by assumption))).symm | exact congrArg Value.bool (decide_eq_true (Oct.eq_of_take hlen (by omega) hok.2)).symm
  · skip
    try simp only [decide_eq_true_eq, decide_eq_false_iff_not, Bool.not_eq_true', Bool.not_eq_false', Bool.and_eq_true, Bool.not_eq_true, Bool.not_eq_false] at hc7
    refine wp_skip ?_
    refine then_n ?_
    refine wp_seq ?_
    refine wp_seq ?_
    refine reg ?_
    refine plain (y_assign rfl rfl) rfl rfl rfl H6 ?_
    clear H6; intro a9 H9
    refine fin ?_
    refine then_n ?_
    refine wp_block ?_
    have hlen : p.length = q.length := by omega
    refine loop (ι := Nat) (fun k => [(0, .slice A p.length c), (1, .slice B q.length e), (5, .int .i64 (k : Int))]) (fun k => []) (fun k => k ≤ p.length ∧ p.take k = q.take k) (fun k => p.length - k) (0) ⟨Nat.zero_le _, rfl⟩ (H9.weak ⟨rfl, rfl, rfl, trivial⟩ rfl) ?_
    clear H9; intro k a10 wx10 hok10 H10
    have hok := hok10
    refine wp_seq ?_
    refine wp_seq ?_
    refine reg ?_
    refine plain (y_move rfl rfl) rfl rfl rfl H10 ?_
    clear H10; intro a11 H11
    refine plain (y_move rfl rfl) rfl rfl rfl H11 ?_
    clear H11; intro a12 H12
    refine plain (y_len rfl Tryd.underlying22 rfl) rfl rfl rfl H12 ?_
    clear H12; intro a13 H13
    refine plain (y_lss rfl rfl rfl) rfl rfl rfl H13 ?_
    clear H13; intro a14 H14
    refine fin ?_
    refine then_n ?_
    refine cnd H14 rfl (fun hc15 => ?_) (fun hc15 => ?_) -- cond 2
    · skip
      try simp only [decide_eq_true_eq, decide_eq_false_iff_not, Bool.not_eq_true', Bool.not_eq_false', Bool.and_eq_true, Bool.not_eq_true, Bool.not_eq_false] at hc15
      refine wp_skip ?_
      refine then_n ?_
      refine wp_seq ?_
      refine wp_block ?_
      refine wp_seq ?_
      refine qreg (by kernel_rfl) (by kernel_rfl) H14 ?_
      have F16 := H14.fr
      clear H14
      refine qplain (y_move rfl rfl) rfl rfl rfl F16 ?_
      clear F16; intro a17 H17
      refine qplain (y_move rfl rfl) rfl rfl rfl H17 ?_
      clear H17; intro a18 H18
      refine qplain (y_ixR rfl Tryd.underlying22 z_size38 rfl rfl (by omega) (by omega) (rd_old hA (by simp)) (by first | (rw [Inbox.ec_len hp]; omega) | (rw [Inbox.ec_len hq]; omega))) rfl rfl rfl H18 ?_
      clear H18; intro a19 H19
      refine qplain (y_loadAS rfl z_agg38 z_size38 rfl (rd_old hA (by simp)) (show _ = Inbox.Entry.cells (p.getD k Inbox.Entry.zero) from Inbox.ec_take hp k (by omega)) (Inbox.Entry.cells_len (hp _ (by rw [Oct.getD_eq _ (by omega)]; exact List.getElem_mem _))) (by decide)) rfl rfl rfl H19 ?_
      clear H19; intro a20 H20
      refine qplain (y_move rfl rfl) rfl rfl rfl H20 ?_
      clear H20; intro a21 H21
      refine qplain (y_move rfl rfl) rfl rfl rfl H21 ?_
      clear H21; intro a22 H22
      refine qplain (y_ixR rfl Tryd.underlying22 z_size38 rfl rfl (by omega) (by omega) (rd_old hB (by simp)) (by first | (rw [Inbox.ec_len hp]; omega) | (rw [Inbox.ec_len hq]; omega))) rfl rfl rfl H22 ?_
      clear H22; intro a23 H23
      refine qplain (y_loadAS rfl z_agg38 z_size38 rfl (rd_old hB (by simp)) (show _ = Inbox.Entry.cells (q.getD k Inbox.Entry.zero) from Inbox.ec_take hq k (by omega)) (Inbox.Entry.cells_len (hq _ (by rw [Oct.getD_eq _ (by omega)]; exact List.getElem_mem _))) (by decide)) rfl rfl rfl H23 ?_
      clear H23; intro a24 H24
      refine qplain (y_tneq rfl (by kernel_rfl) rfl rfl (eqr_Entry (p.getD k Inbox.Entry.zero) (q.getD k Inbox.Entry.zero) (hp _ (by rw [Oct.getD_eq _ (by omega)]; exact List.getElem_mem _)) (hq _ (by rw [Oct.getD_eq _ (by omega)]; exact List.getElem_mem _)))) rfl rfl rfl H24 ?_
      clear H24; intro a25 H25
      refine qfin H25 ?_
      clear H25; intro wx26 H26
      refine then_n ?_
      refine cnd H26 rfl (fun hc27 => ?_) (fun hc27 => ?_) -- cond 3
      · skip
        try simp only [decide_eq_true_eq, decide_eq_false_iff_not, Bool.not_eq_true', Bool.not_eq_false', Bool.and_eq_true, Bool.not_eq_true, Bool.not_eq_false] at hc27
        refine wp_seq ?_
        refine reg ?_
        refine plain (y_assign rfl rfl) rfl rfl rfl H26 ?_
        clear H26; intro a28 H28
        refine fin ?_
        refine then_n ?_
        refine wp_ret ?_
        refine inb_r ?_
        refine then_r ?_
        refine then_r ?_
        refine inb_r ?_
        refine then_r ?_
        -- return 2
        refine ret1 rfl H28 rfl ?_
        refine ⟨_, [], rfl, ⟨?_, rfl⟩, H28.sep.sub (List.nil_sublist _)⟩
        first | exact congrArg Value.bool (decide_eq_false (fun e => by subst e; omega)).symm | exact congrArg Value.bool (decide_eq_false (fun e => by subst e; exact absurd rfl (by assumption))).symm | exact congrArg Value.bool (decide_eq_true (Oct.eq_of_take hlen (by omega) hok.2)).symm
      · skip
        try simp only [decide_eq_true_eq, decide_eq_false_iff_not, Bool.not_eq_true', Bool.not_eq_false', Bool.and_eq_true, Bool.not_eq_true, Bool.not_eq_false] at hc27
        refine wp_skip ?_
        refine inb_n ?_
        refine then_n ?_
        refine reg ?_
        refine plain (y_move rfl rfl) rfl rfl rfl H26 ?_
        clear H26; intro a29 H29
        refine plain (y_add rfl rfl rfl (by first | exact w64 (by omega) (by omega) | rfl)) rfl rfl rfl H29 ?_
        clear H29; intro a30 H30
        refine plain (y_assign rfl rfl) rfl rfl rfl H30 ?_
        clear H30; intro a31 H31
        refine fin ?_
        refine then_n ?_
        refine ⟨k + 1, by omega, ⟨by omega, Oct.take_eq_succ Inbox.Entry.zero (by omega) (by omega) hok.2 (by first | assumption | exact Decidable.not_not.1 (by assumption))⟩, H31.weak ⟨rfl, rfl, fi rfl (by omega), trivial⟩ rfl⟩
    · skip
      try simp only [decide_eq_true_eq, decide_eq_false_iff_not, Bool.not_eq_true', Bool.not_eq_false', Bool.and_eq_true, Bool.not_eq_true, Bool.not_eq_false] at hc15
      refine wp_exit ?_
      refine then_x ?_
      refine then_x ?_
      refine inb_hit ?_
      refine then_n ?_
      refine wp_seq ?_
      refine reg ?_
      refine plain (y_assign rfl rfl) rfl rfl rfl H14 ?_
      clear H14; intro a32 H32
      refine fin ?_
      refine then_n ?_
      refine wp_ret ?_
      -- return 3
      refine ret1 rfl H32 rfl ?_
      refine ⟨_, [], rfl, ⟨?_, rfl⟩, H32.sep.sub (List.nil_sublist _)⟩
      first | exact congrArg Value.bool (decide_eq_false (fun e => by subst e; omega)).symm | exact congrArg Value.bool (decide_eq_false (fun e => by subst e; exact absurd rfl (by assumption))).symm | exact congrArg Value.bool (decide_eq_true (Oct.eq_of_take hlen (by omega) hok.2)).symm

end Go.Proofs.YtbdkgmkaakoigaaDoor.I_Same

set_option linter.unusedVariables false
set_option linter.unusedSimpArgs false
namespace Go.Proofs.YtbdkgmkaakoigaaDoor.I_Nums
open Go.Sx Go.RowKit Go.Proofs.YtbdkgmkaakoigaaDoor.I_Block Go.Proofs.YtbdkgmkaakoigaaDoor.I_Sum Go.Proofs.YtbdkgmkaakoigaaDoor.I_Ref Go.Proofs.YtbdkgmkaakoigaaDoor.I_RSum Go.Proofs.YtbdkgmkaakoigaaDoor.I_Num Go.Proofs.YtbdkgmkaakoigaaDoor.I_Lay Go.Proofs.YtbdkgmkaakoigaaDoor.I_Leaf Go.Proofs.YtbdkgmkaakoigaaDoor.I_Item Go.Proofs.YtbdkgmkaakoigaaDoor.I_RefI Go.Proofs.YtbdkgmkaakoigaaDoor.I_Eq

theorem z_size3 : sizeB Tryd.prog 3 = some 1 := by kernel_rfl
theorem z_agg3 : aggB Tryd.prog 3 = some false := by kernel_rfl

end Go.Proofs.YtbdkgmkaakoigaaDoor.I_Nums

set_option linter.unusedVariables false
set_option linter.unusedSimpArgs false
namespace Go.Proofs.YtbdkgmkaakoigaaDoor.I_L4
open Go.Sx Go.RowKit Go.Proofs.YtbdkgmkaakoigaaDoor.I_Block Go.Proofs.YtbdkgmkaakoigaaDoor.I_Sum Go.Proofs.YtbdkgmkaakoigaaDoor.I_Ref Go.Proofs.YtbdkgmkaakoigaaDoor.I_RSum Go.Proofs.YtbdkgmkaakoigaaDoor.I_Num Go.Proofs.YtbdkgmkaakoigaaDoor.I_Lay Go.Proofs.YtbdkgmkaakoigaaDoor.I_Leaf Go.Proofs.YtbdkgmkaakoigaaDoor.I_Item Go.Proofs.YtbdkgmkaakoigaaDoor.I_RefI Go.Proofs.YtbdkgmkaakoigaaDoor.I_Eq Go.Proofs.YtbdkgmkaakoigaaDoor.I_Put Go.Proofs.YtbdkgmkaakoigaaDoor.I_Msg Go.Proofs.YtbdkgmkaakoigaaDoor.I_Reach Go.Proofs.YtbdkgmkaakoigaaDoor.I_Aw Go.Proofs.YtbdkgmkaakoigaaDoor.I_For Go.Proofs.YtbdkgmkaakoigaaDoor.I_RFor Go.Proofs.YtbdkgmkaakoigaaDoor.I_RMsg Go.Proofs.YtbdkgmkaakoigaaDoor.I_Same Go.Proofs.YtbdkgmkaakoigaaDoor.I_Nums

theorem z_size49 : sizeB Tryd.prog 49 = some 35 := by kernel_rfl
theorem z_call11 : callB Tryd.prog 11 = true := by kernel_rfl
theorem z_zero49 : zeroL Tryd.prog 49 = some ([.int .i64 0, .int .i64 0, .int .u8 0, .int .u8 0, .int .u8 0, .int .u8 0, .int .u8 0, .int .u8 0, .int .u8 0, .int .u8 0, .int .u8 0, .int .u8 0, .int .u8 0, .int .u8 0, .int .u8 0, .int .u8 0, .int .u8 0, .int .u8 0, .int .u8 0, .int .u8 0, .int .u8 0, .int .u8 0, .int .u8 0, .int .u8 0, .int .u8 0, .int .u8 0, .int .u8 0, .int .u8 0, .int .u8 0, .int .u8 0, .int .u8 0, .int .u8 0, .int .u8 0, .int .u8 0, .slice none 0 0]) := by kernel_rfl
theorem z_slice28 : sliceB Tryd.prog 28 = some (49, 35, 72) := by kernel_rfl
theorem z_notint28 : notIntB Tryd.prog 28 = true := by kernel_rfl
theorem z_call8 : callB Tryd.prog 8 = true := by kernel_rfl
theorem z_size38 : sizeB Tryd.prog 38 = some 35 := by kernel_rfl
theorem z_call12 : callB Tryd.prog 12 = true := by kernel_rfl

set_option maxRecDepth 100000 in
set_option maxHeartbeats 1000000 in
theorem inboxGrows (X : List Inbox.BA) (A : Option Addr) (c : Nat) (hcX : X.length ≤ c) (hlX : X.length ≤ 1048576) (V : List Inbox.BA) (B : Option Addr) (e : Nat) (hcV : V.length ≤ e) (hlV : V.length ≤ 1048576) {w : World} (hXX : ∀ x ∈ X, Inbox.BA.Wf w x) (hitX : ∀ x ∈ X, x.b.items.length ≤ 1048576) (hRX : Rd w A (Inbox.bc X)) (hXV : ∀ x ∈ V, Inbox.BA.Wf w x) (hitV : ∀ x ∈ V, x.b.items.length ≤ 1048576) (hRV : Rd w B (Inbox.bc V)) (hG : Glob 0 Sha.K w) : Calls Tryd.prog 4 #[.slice A X.length c, .slice B V.length e] w (Gives (.bool true) [] w) := by
  obtain ⟨Y, hWY, hiY, hrY, hnY, h1Y, h2Y⟩ := Inbox.few 30 hXX hitX hRX
  obtain ⟨Z, hWZ, hiZ, hrZ, hnZ, h1Z, h2Z⟩ := Inbox.few 30 hXV hitV hRV
  have hml := Inbox.messages_few hiY (by omega)
  have lz32 : (List.replicate 32 (0 : UInt8)).length = 32 := List.length_replicate
  refine enterL (args := [.slice A X.length c, .slice B V.length e]) Tryd.func4 rfl rfl (l := []) (Sep.refl _) ?_
  intro a0 H0
  refine wp_seq ?_
  refine reg ?_
  refine plain (y_assign rfl rfl) rfl rfl rfl H0 ?_
  clear H0; intro a1 H1
  refine fin ?_
  refine then_n ?_
  refine wp_seq ?_
  refine wp_seq ?_
  refine reg ?_
  refine plain (y_move rfl rfl) rfl rfl rfl H1 ?_
  clear H1; intro a2 H2
  refine plain (y_len rfl Tryd.underlying28 rfl) rfl rfl rfl H2 ?_
  clear H2; intro a3 H3
  refine plain (y_gtr rfl rfl rfl) rfl rfl rfl H3 ?_
  clear H3; intro a4 H4
  refine fin ?_
  refine then_n ?_
  refine wp_cut (fun aC wC => St Tryd.f4.ntmps [] w ([(0, .slice A Y.length c), (1, .slice B V.length e), (4, .bool false)]) ([]) aC wC) ?_ ?_
  · skip
    refine cnd H4 rfl (fun hc5 => ?_) (fun hc5 => ?_) -- cond 1
    · skip
      try simp only [decide_eq_true_eq, decide_eq_false_iff_not, Bool.not_eq_true', Bool.not_eq_false', Bool.and_eq_true, Bool.not_eq_true, Bool.not_eq_false] at hc5
      refine reg ?_
      refine plain (y_move rfl rfl) rfl rfl rfl H4 ?_
      clear H4; intro a6 H6
      refine plain (y_slS_hi rfl Tryd.underlying28 z_size49 rfl rfl (by omega) (by omega) (by omega)) rfl rfl rfl H6 ?_
      clear H6; intro a7 H7
      refine plain (y_assign rfl rfl) rfl rfl rfl H7 ?_
      clear H7; intro a8 H8
      refine fin ?_
      refine cut_n ?_
      exact H8.weak ⟨fv rfl (congrArg (fun z => Value.slice A z c) (by omega)), rfl, rfl, trivial⟩ rfl
    · skip
      try simp only [decide_eq_true_eq, decide_eq_false_iff_not, Bool.not_eq_true', Bool.not_eq_false', Bool.and_eq_true, Bool.not_eq_true, Bool.not_eq_false] at hc5
      refine wp_skip ?_
      refine cut_n ?_
      exact H4.weak ⟨fv rfl (congrArg (fun z => Value.slice A z c) (by omega)), rfl, rfl, trivial⟩ rfl
  · clear H4; intro a9 wx9 hI9
    have H9 := hI9
    refine then_n ?_
    refine wp_seq ?_
    refine wp_seq ?_
    refine reg ?_
    refine plain (y_move rfl rfl) rfl rfl rfl H9 ?_
    clear H9; intro a10 H10
    refine plain (y_len rfl Tryd.underlying28 rfl) rfl rfl rfl H10 ?_
    clear H10; intro a11 H11
    refine plain (y_gtr rfl rfl rfl) rfl rfl rfl H11 ?_
    clear H11; intro a12 H12
    refine fin ?_
    refine then_n ?_
    refine wp_cut (fun aC wC => St Tryd.f4.ntmps [] w ([(0, .slice A Y.length c), (1, .slice B Z.length e), (4, .bool false)]) ([]) aC wC) ?_ ?_
    · skip
      refine cnd H12 rfl (fun hc13 => ?_) (fun hc13 => ?_) -- cond 2
      · skip
        try simp only [decide_eq_true_eq, decide_eq_false_iff_not, Bool.not_eq_true', Bool.not_eq_false', Bool.and_eq_true, Bool.not_eq_true, Bool.not_eq_false] at hc13
        refine reg ?_
        refine plain (y_move rfl rfl) rfl rfl rfl H12 ?_
        clear H12; intro a14 H14
        refine plain (y_slS_hi rfl Tryd.underlying28 z_size49 rfl rfl (by omega) (by omega) (by omega)) rfl rfl rfl H14 ?_
        clear H14; intro a15 H15
        refine plain (y_assign rfl rfl) rfl rfl rfl H15 ?_
        clear H15; intro a16 H16
        refine fin ?_
        refine cut_n ?_
        exact H16.weak ⟨rfl, fv rfl (congrArg (fun z => Value.slice B z e) (by omega)), rfl, trivial⟩ rfl
      · skip
        try simp only [decide_eq_true_eq, decide_eq_false_iff_not, Bool.not_eq_true', Bool.not_eq_false', Bool.and_eq_true, Bool.not_eq_true, Bool.not_eq_false] at hc13
        refine wp_skip ?_
        refine cut_n ?_
        exact H12.weak ⟨rfl, fv rfl (congrArg (fun z => Value.slice B z e) (by omega)), rfl, trivial⟩ rfl
    · clear H12; intro a17 wx17 hI17
      have H17 := hI17
      refine then_n ?_
      refine wp_seq ?_
      refine reg ?_
      refine plain (y_move rfl rfl) rfl rfl rfl H17 ?_
      clear H17; intro a18 H18
      refine st_call rfl z_call11 rfl rfl rfl rfl H18 (imsgs Y A _ c rfl (by omega) (fun x hx => (hWY x hx).frm H18.sep.frm (by simp)) hiY (Rd.frm hrY H18.sep.frm (by simp)) (hG.frm H18.sep.frm (by simp))) ?_
      clear H18; intro v19 l19 a19 wx19 hf19 H19
      obtain rfl := hf19
      simp only [List.cons_append, List.nil_append] at H19
      obtain ⟨ArM, crM, hvrM, hRrM, hmrM⟩ := row_shape (v := v19) H19.sep (by repeat (first | exact Mh | apply Mt))
      subst hvrM
      refine plain (y_assign rfl rfl) rfl rfl rfl H19 ?_
      clear H19; intro a20 H20
      refine fin ?_
      refine then_n ?_
      refine wp_seq ?_
      have hYZ : ∀ x ∈ Y ++ Z, Inbox.BA.Wf w x := fun x hx => (List.mem_append.1 hx).elim (hWY x) (hWZ x)
      have hiYZ : ∀ x ∈ Y ++ Z, x.b.items.length ≤ 1048576 := fun x hx => (List.mem_append.1 hx).elim (hiY x) (hiZ x)
      have hnYZ : (Y ++ Z).length ≤ 100 := by rw [List.length_append]; omega
      have hmz := Inbox.messages_few hiYZ hnYZ
      have hpl := Inbox.pre_len (Y.map (·.b)) (Z.map (·.b))
      have hpt := Inbox.pre_take (Y.map (·.b)) (Z.map (·.b))
      rw [← List.map_append] at hpl hpt
      refine reg ?_
      refine st_buildSlice rfl Tryd.underlying28 z_size49 z_zero49 rfl rfl rfl rfl rfl rfl rfl H20 ?_
      clear H20; intro b21 a21 wx21 H21
      refine plain (y_move rfl rfl) rfl rfl rfl H21 ?_
      clear H21; intro a22 H22
      replace H22 := H22.asRow (size := 35) (m := 0) (by repeat (first | exact Uh | apply Ut)) rfl (by unfold maxLen; omega)
      refine st_append rfl z_slice28 z_notint28 rfl rfl (fun _ => (by repeat (first | exact Uh | apply Ut))) (fun w hs => Src.slice ((rd_old hrY (by simp)) w hs) (Inbox.bc_len hWY) (Inbox.bc_cell _)) (by unfold maxLen at *; first | omega | (simp only [List.length_cons, List.length_nil, List.length_append, List.length_map]; omega)) (by first | omega | (simp only [List.length_cons, List.length_nil, List.length_append, List.length_map]; omega)) rfl rfl rfl H22 ?_
      clear H22; intro v23 a23 wx23 hnil23 H23
      obtain ⟨Ar23, cr23, hvr23, hRr23, hmr23⟩ := row_shape (v := v23) H23.sep (by repeat (first | exact Mh | apply Mt))
      subst hvr23
      refine plain (y_move rfl rfl) rfl rfl rfl H23 ?_
      clear H23; intro a24 H24
      refine st_append rfl z_slice28 z_notint28 rfl rfl (fun _ => (by repeat (first | exact Uh | apply Ut))) (fun w hs => Src.slice ((rd_old hrZ (by simp)) w hs) (Inbox.bc_len hWZ) (Inbox.bc_cell _)) (by unfold maxLen at *; first | omega | (simp only [List.length_cons, List.length_nil, List.length_append, List.length_map]; omega)) (by first | omega | (simp only [List.length_cons, List.length_nil, List.length_append, List.length_map]; omega)) rfl rfl rfl H24 ?_
      clear H24; intro v25 a25 wx25 hnil25 H25
      obtain ⟨Ar25, cr25, hvr25, hRr25, hmr25⟩ := row_shape (v := v25) H25.sep (by repeat (first | exact Mh | apply Mt))
      subst hvr25
      refine st_call rfl z_call11 rfl rfl rfl rfl H25 (imsgs (Y ++ Z) _ _ _ (by simp) hnYZ (fun x hx => (hYZ x hx).frm H25.sep.frm (by simp)) hiYZ (by rw [Inbox.bc_append]; exact Rd.ofSep (rd_row (by repeat (first | exact Mh | apply Mt))) H25.sep) (hG.frm H25.sep.frm (by simp))) ?_
      clear H25; intro v26 l26 a26 wx26 hf26 H26
      obtain rfl := hf26
      simp only [List.cons_append, List.nil_append] at H26
      obtain ⟨ArN, crN, hvrN, hRrN, hmrN⟩ := row_shape (v := v26) H26.sep (by repeat (first | exact Mh | apply Mt))
      subst hvrN
      refine plain (y_assign rfl rfl) rfl rfl rfl H26 ?_
      clear H26; intro a27 H27
      refine fin ?_
      refine then_n ?_
      refine wp_seq ?_
      have hcap := row_cap H27.sep (A := ArN) (c := crN) (by repeat (first | exact Mh | apply Mt))
      refine reg ?_
      refine st_callg rfl z_call8 rfl rfl rfl rfl H27 (iawake (hG.frm H27.sep.frm (by simp))) ?_
      clear H27; intro a28 wx28 H28
      refine plain (y_move rfl rfl) rfl rfl rfl H28 ?_
      clear H28; intro a29 H29
      refine plain (y_move rfl rfl) rfl rfl rfl H29 ?_
      clear H29; intro a30 H30
      refine plain (y_len rfl Tryd.underlying22 rfl) rfl rfl rfl H30 ?_
      clear H30; intro a31 H31
      refine plain (y_move rfl rfl) rfl rfl rfl H31 ?_
      clear H31; intro a32 H32
      refine plain (y_len rfl Tryd.underlying22 rfl) rfl rfl rfl H32 ?_
      clear H32; intro a33 H33
      refine plain (y_leq rfl rfl rfl) rfl rfl rfl H33 ?_
      clear H33; intro a34 H34
      refine plain (y_pick_t rfl rfl rfl) rfl rfl rfl H34 ?_
      clear H34; intro a35 H35
      refine plain (y_move rfl rfl) rfl rfl rfl H35 ?_
      clear H35; intro a36 H36
      have H38 := H36.know (d := 33) (v := .bool true) rfl (congrArg Value.bool (decide_eq_true (by omega)))
      clear H36
      refine plain (y_move rfl rfl) rfl rfl rfl H38 ?_
      clear H38; intro a39 H39
      refine plain (y_move rfl rfl) rfl rfl rfl H39 ?_
      clear H39; intro a40 H40
      refine plain (y_move rfl rfl) rfl rfl rfl H40 ?_
      clear H40; intro a41 H41
      refine plain (y_len rfl Tryd.underlying22 rfl) rfl rfl rfl H41 ?_
      clear H41; intro a42 H42
      refine plain (y_slS_hi rfl Tryd.underlying22 z_size38 rfl rfl (by omega) (by omega) (by omega)) rfl rfl rfl H42 ?_
      clear H42; intro a43 H43
      refine st_callg rfl z_call12 rfl rfl rfl rfl H43 (rsame (Inbox.messages (Y.map (·.b))) (Inbox.messages (Y.map (·.b))) (Inbox.messages_accs _) (Inbox.messages_accs _) _ _ _ _ _ _ rfl (by simp) (by omega) (by omega) (Rd.ofSep (rd_row (by repeat (first | exact Mh | apply Mt))) H43.sep) (by have hz := Inbox.rd_pre (Inbox.messages_accs _) (Rd.ofSep (rd_row (A := ArN) (m := _) (c := crN) (by repeat (first | exact Mh | apply Mt))) H43.sep) (Inbox.messages (Y.map (·.b))).length; rw [hpt] at hz; exact hz)) ?_
      clear H43; intro a44 wx44 H44
      refine plain (y_pick_t rfl rfl rfl) rfl rfl rfl H44 ?_
      clear H44; intro a45 H45
      refine plain (y_assign rfl rfl) rfl rfl rfl H45 ?_
      clear H45; intro a46 H46
      refine fin ?_
      refine then_n ?_
      refine wp_ret ?_
      -- return 1
      refine ret1 rfl H46 rfl ?_
      exact ⟨_, [], rfl, ⟨congrArg Value.bool (decide_eq_true rfl), rfl⟩, H46.sep.sub (List.nil_sublist _)⟩

end Go.Proofs.YtbdkgmkaakoigaaDoor.I_L4

set_option linter.unusedVariables false
set_option linter.unusedSimpArgs false
namespace Go.Proofs.YtbdkgmkaakoigaaDoor.I_Rd
open Go.Sx Go.RowKit

theorem rd_Item {H : Type} {enc : TypeId × Value → H} {W : World} {sp : Nat → Bool} {held : Bool} {cs : List Value} (h : Trw enc Tryd.prog W sp held 51 cs) : ∃ (x : Note.Item), cs = Note.Item.cells x ∧ Note.Item.Wf x := by
  have hp := h.pieces Tryd.underlying51 [1, 1, 1, 1] (by kernel_rfl)
  obtain ⟨v0, e0, w0⟩ := (h.field Tryd.underlying51 0 rfl (o := 0) rfl (T := 3) rfl (k := 1) (by kernel_rfl)).i64 Tryd.underlying3
  obtain ⟨v1, e1, w1⟩ := (h.field Tryd.underlying51 1 rfl (o := 1) rfl (T := 3) rfl (k := 1) (by kernel_rfl)).i64 Tryd.underlying3
  obtain ⟨v2, e2, w2⟩ := (h.field Tryd.underlying51 2 rfl (o := 2) rfl (T := 3) rfl (k := 1) (by kernel_rfl)).i64 Tryd.underlying3
  obtain ⟨v3, e3, w3⟩ := (h.field Tryd.underlying51 3 rfl (o := 3) rfl (T := 9) rfl (k := 1) (by kernel_rfl)).str Tryd.underlying9
  refine ⟨⟨v0, v1, v2, v3⟩, ?_, w0, w1, w2, w3⟩
  rw [hp]
  simp only [Sx.pieces, Nat.zero_add, Nat.reduceAdd, e0, e1, e2, e3]
  first | rfl | simp [Note.Item.cells]
theorem rd_BA {H : Type} {enc : TypeId × Value → H} {W : World} {sp : Nat → Bool} {held : Bool} {m : DataW H → Nat} {B : Nat} {cs : List Value} (M : Meas m) (h : Trb enc Tryd.prog W sp held m B 49 cs) : ∃ (x : Inbox.BA), cs = Inbox.BA.cells x ∧ Inbox.BA.Wf W x ∧ x.b.items.length ≤ B := by
  have hp := h.trw.pieces Tryd.underlying49 [1, 1, 32, 1] (by kernel_rfl)
  obtain ⟨v0, e0, w0⟩ := (h.trw.field Tryd.underlying49 0 rfl (o := 0) rfl (T := 3) rfl (k := 1) (by kernel_rfl)).i64 Tryd.underlying3
  obtain ⟨v1, e1, w1⟩ := (h.trw.field Tryd.underlying49 1 rfl (o := 1) rfl (T := 3) rfl (k := 1) (by kernel_rfl)).i64 Tryd.underlying3
  obtain ⟨v2, e2, w2⟩ := (h.trw.field Tryd.underlying49 2 rfl (o := 2) rfl (T := 33) rfl (k := 32) (by kernel_rfl)).bytes Tryd.underlying33 Tryd.underlying5 (by kernel_rfl) (by kernel_rfl)
  obtain ⟨A3, m3, c3, e3, hmc3, hm3, rows3, hr3, hR3, hrow3⟩ := Trb.sliceC M (Trb.field M h Tryd.underlying49 3 rfl (o := 34) rfl (T := 47) rfl (k := 1) (by kernel_rfl)) Tryd.underlying47 (by rw [show Tryd.prog.cellsOf 51 = 4 by kernel_rfl]; decide)
  obtain ⟨v3, rfl, w3⟩ := rows_map (f := Note.Item.cells) (rows := rows3) (fun r hr => rd_Item (hrow3 r hr).2.trw)
  simp only [List.length_map] at hr3
  subst hr3
  obtain ⟨_, _, _, e4, _, hm4, _⟩ := Trw.sliceC (h.trw.field Tryd.underlying49 3 rfl (o := 34) rfl (T := 47) rfl (k := 1) (by kernel_rfl)) Tryd.underlying47 (by rw [show Tryd.prog.cellsOf 51 = 4 by kernel_rfl]; decide)
  rw [e3] at e4
  have e5 := (List.cons.inj e4).1
  injection e5 with e6 e7 e8
  rw [← e7] at hm4
  refine ⟨⟨⟨v0, v1, v2, v3⟩, A3, c3⟩, ?_, ⟨w0, w1, w2, hm4, w3, hR3⟩, hm3⟩
  rw [hp]
  simp only [Sx.pieces, Nat.zero_add, Nat.reduceAdd, e0, e1, e2, e3]
  first | rfl | simp [Inbox.BA.cells]

end Go.Proofs.YtbdkgmkaakoigaaDoor.I_Rd
