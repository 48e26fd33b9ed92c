/- Part of a proof about given Go functions: contracts of functions, or plain laws. -/
import Derived.Test.YtlaojmcpiggfeaaSxH
import Derived.Test.YtlaojmcpiggfeaaBankV
import Derived.Test.YtlaojmcpiggfeaaBank2
import Derived.Test.YtlaojmcpiggfeaaProg
import Derived.Test.YtlaojmcpiggfeaaTBank
import Derived.Test.YtlaojmcpiggfeaaTBank2
set_option linter.unusedVariables false
set_option linter.unusedSimpArgs false
namespace Go.Proofs.Ytlaojmcpiggfeaa.TBank3
open Go.Sx Go.RowKit Go.Proofs.Ytlaojmcpiggfeaa.TBank Go.Proofs.Ytlaojmcpiggfeaa.TBank2

theorem z_size3 : sizeB Try.prog 3 = some 1 := by kernel_rfl
theorem z_agg3 : aggB Try.prog 3 = some false := by kernel_rfl

set_option maxRecDepth 100000 in
set_option maxHeartbeats 1000000 in
theorem numbers (x y : List Int) (A B : Option Addr) (m m2 c c2 : Nat) (hm : m = x.length) (hm2 : m2 = y.length) {w : World} (hA : Rd w A (x.map i64)) (hB : Rd w B (y.map i64)) (hl : x.length ≤ 9223372036854775807) : Calls Try.prog 26 #[.slice A m c, .slice B m2 c2] w (Gives (.bool (decide (x = y))) [] w) := by
  subst hm hm2
  refine enterL (args := [.slice A x.length c, .slice B y.length c2]) Try.func26 rfl rfl (l := []) (Sep.refl _) ?_
  intro a0 H0
  refine wp_seq ?_
  refine reg ?_
  refine plain (y_assign rfl rfl) rfl rfl rfl H0 ?_
  clear H0; intro a1 H1
  refine fin ?_
  refine then_n ?_
  refine wp_seq ?_
  refine wp_seq ?_
  refine reg ?_
  refine plain (y_move rfl rfl) rfl rfl rfl H1 ?_
  clear H1; intro a2 H2
  refine plain (y_len rfl Try.underlying39 rfl) rfl rfl rfl H2 ?_
  clear H2; intro a3 H3
  refine plain (y_move rfl rfl) rfl rfl rfl H3 ?_
  clear H3; intro a4 H4
  refine plain (y_len rfl Try.underlying39 rfl) rfl rfl rfl H4 ?_
  clear H4; intro a5 H5
  refine plain (y_neq rfl rfl rfl) rfl rfl rfl H5 ?_
  clear H5; intro a6 H6
  refine fin ?_
  refine then_n ?_
  refine cnd_d H6 rfl (fun hc7 => ?_) (fun hc7 => ?_) -- cond 1
  · skip
    refine wp_seq ?_
    refine reg ?_
    refine plain (y_assign rfl rfl) rfl rfl rfl H6 ?_
    clear H6; intro a8 H8
    refine fin ?_
    refine then_n ?_
    refine wp_ret ?_
    refine then_r ?_
    -- return 1
    refine ret1 rfl H8 rfl ?_
    exact ⟨_, [], rfl, ⟨by rw [decide_eq_false (fun e => by subst e; omega)], rfl⟩, H8.sep.sub (List.nil_sublist _)⟩
  · skip
    refine wp_skip ?_
    refine then_n ?_
    refine wp_seq ?_
    refine wp_seq ?_
    refine reg ?_
    refine plain (y_assign rfl rfl) rfl rfl rfl H6 ?_
    clear H6; intro a9 H9
    refine fin ?_
    refine then_n ?_
    refine wp_block ?_
    have hlen : x.length = y.length := by omega
    refine loop (ι := Nat) (fun k => [(0, .slice A x.length c), (1, .slice B y.length c2), (5, .int .i64 (k : Int))]) (fun k => []) (fun k => k ≤ x.length ∧ x.take k = y.take k) (fun k => x.length - k) (0) (by simp) (H9.weak ⟨rfl, rfl, rfl, trivial⟩ rfl) ?_
    clear H9; intro k a10 w10 hok10 H10
    have hok := hok10
    refine wp_seq ?_
    refine wp_seq ?_
    refine reg ?_
    refine plain (y_move rfl rfl) rfl rfl rfl H10 ?_
    clear H10; intro a11 H11
    refine plain (y_move rfl rfl) rfl rfl rfl H11 ?_
    clear H11; intro a12 H12
    refine plain (y_len rfl Try.underlying39 rfl) rfl rfl rfl H12 ?_
    clear H12; intro a13 H13
    refine plain (y_lss rfl rfl rfl) rfl rfl rfl H13 ?_
    clear H13; intro a14 H14
    refine fin ?_
    refine then_n ?_
    refine cnd_d H14 rfl (fun hc15 => ?_) (fun hc15 => ?_) -- cond 2
    · skip
      refine wp_skip ?_
      refine then_n ?_
      refine wp_seq ?_
      refine wp_block ?_
      refine wp_seq ?_
      refine qreg (by kernel_rfl) (by kernel_rfl) H14 ?_
      have F16 := H14.fr
      clear H14
      refine qplain (y_move rfl rfl) rfl rfl rfl F16 ?_
      clear F16; intro a17 H17
      refine qplain (y_move rfl rfl) rfl rfl rfl H17 ?_
      clear H17; intro a18 H18
      refine qplain (y_ixR rfl Try.underlying39 z_size3 rfl rfl (by omega) (by omega) (rd_old (by assumption) (by simp)) (by simp; omega)) rfl rfl rfl H18 ?_
      clear H18; intro a19 H19
      refine qplain (y_loadR rfl z_agg3 rfl (rd_old (by assumption) (by simp)) (by simp only [Int.toNat_natCast, Nat.mul_one, Nat.add_zero]; exact i64_get _ _ (by omega))) rfl rfl rfl H19 ?_
      clear H19; intro a20 H20
      refine qplain (y_move rfl rfl) rfl rfl rfl H20 ?_
      clear H20; intro a21 H21
      refine qplain (y_move rfl rfl) rfl rfl rfl H21 ?_
      clear H21; intro a22 H22
      refine qplain (y_ixR rfl Try.underlying39 z_size3 rfl rfl (by omega) (by omega) (rd_old (by assumption) (by simp)) (by simp; omega)) rfl rfl rfl H22 ?_
      clear H22; intro a23 H23
      refine qplain (y_loadR rfl z_agg3 rfl (rd_old (by assumption) (by simp)) (by simp only [Int.toNat_natCast, Nat.mul_one, Nat.add_zero]; exact i64_get _ _ (by omega))) rfl rfl rfl H23 ?_
      clear H23; intro a24 H24
      refine qplain (y_neq rfl rfl rfl) rfl rfl rfl H24 ?_
      clear H24; intro a25 H25
      refine qfin H25 ?_
      clear H25; intro w26 H26
      refine then_n ?_
      refine cnd_d H26 rfl (fun hc27 => ?_) (fun hc27 => ?_) -- cond 3
      · skip
        refine wp_seq ?_
        refine reg ?_
        refine plain (y_assign rfl rfl) rfl rfl rfl H26 ?_
        clear H26; intro a28 H28
        refine fin ?_
        refine then_n ?_
        refine wp_ret ?_
        refine inb_r ?_
        refine then_r ?_
        refine then_r ?_
        refine inb_r ?_
        refine then_r ?_
        -- return 2
        refine ret1 rfl H28 rfl ?_
        exact ⟨_, [], rfl, ⟨by rw [decide_eq_false (Oct.getD_ne 0 (by assumption))], rfl⟩, H28.sep.sub (List.nil_sublist _)⟩
      · skip
        refine wp_skip ?_
        refine inb_n ?_
        refine then_n ?_
        refine reg ?_
        refine plain (y_move rfl rfl) rfl rfl rfl H26 ?_
        clear H26; intro a29 H29
        refine plain (y_add rfl rfl rfl (by first | exact w64 (by omega) (by omega) | rfl)) rfl rfl rfl H29 ?_
        clear H29; intro a30 H30
        refine plain (y_assign rfl rfl) rfl rfl rfl H30 ?_
        clear H30; intro a31 H31
        refine fin ?_
        refine then_n ?_
        refine ⟨k + 1, by omega, ⟨by omega, Oct.take_eq_succ 0 (by omega) (by omega) hok.2 (Decidable.not_not.1 (by assumption))⟩, H31.weak ⟨rfl, rfl, fi rfl (by omega), trivial⟩ rfl⟩
    · skip
      refine wp_exit ?_
      refine then_x ?_
      refine then_x ?_
      refine inb_hit ?_
      refine then_n ?_
      refine wp_seq ?_
      refine reg ?_
      refine plain (y_assign rfl rfl) rfl rfl rfl H14 ?_
      clear H14; intro a32 H32
      refine fin ?_
      refine then_n ?_
      refine wp_ret ?_
      -- return 3
      refine ret1 rfl H32 rfl ?_
      exact ⟨_, [], rfl, ⟨by rw [decide_eq_true (Oct.eq_of_take hlen (by omega) hok.2)], rfl⟩, H32.sep.sub (List.nil_sublist _)⟩

end Go.Proofs.Ytlaojmcpiggfeaa.TBank3
