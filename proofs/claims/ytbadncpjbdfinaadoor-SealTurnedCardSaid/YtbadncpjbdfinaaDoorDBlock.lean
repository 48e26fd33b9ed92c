/- Part of a proof about given Go functions: contracts of functions, or plain laws. -/
import Derived.Test.YtbadncpjbdfinaaDoorSxV
import Derived.Test.YtbadncpjbdfinaaDoorSxI
import Derived.Test.YtbadncpjbdfinaaDoorSha
import Derived.Test.YtbadncpjbdfinaaDoorProg
set_option linter.unusedVariables false
set_option linter.unusedSimpArgs false
namespace Go.Proofs.YtbadncpjbdfinaaDoor.D_Block
open Go.Sx Go.RowKit

theorem z_zero61 : zeroL Tryd.prog 61 = some ([.int .u32 0, .int .u32 0, .int .u32 0, .int .u32 0, .int .u32 0, .int .u32 0, .int .u32 0, .int .u32 0]) := by kernel_rfl
theorem z_zero76 : zeroL Tryd.prog 76 = some (List.replicate 64 (.int .u32 0)) := by kernel_rfl
theorem z_size59 : sizeB Tryd.prog 59 = some 1 := by kernel_rfl
theorem z_agg59 : aggB Tryd.prog 59 = some false := by kernel_rfl
theorem z_call45 : callB Tryd.prog 45 = true := by kernel_rfl
theorem z_agg61 : aggB Tryd.prog 61 = some true := by kernel_rfl
theorem z_size61 : sizeB Tryd.prog 61 = some 8 := by kernel_rfl

set_option maxRecDepth 100000 in
set_option maxHeartbeats 1000000 in
theorem turn (x : BitVec 32) (n : Nat) (h0 : 0 < n) (h1 : n < 32) (w : World) : Calls Tryd.prog 45 #[u32 x, .int .i64 (n : Int)] w (Gives (u32 (Sha.rotr x n)) [] w) := by
  refine enterL (args := [u32 x, .int .i64 (n : Int)]) Tryd.func45 rfl rfl (l := []) (Sep.refl _) ?_
  intro a0 H0
  refine wp_seq ?_
  refine reg ?_
  refine plain (y_assign rfl rfl) rfl rfl rfl H0 ?_
  clear H0; intro a1 H1
  refine fin ?_
  refine then_n ?_
  refine wp_seq ?_
  refine qreg (by kernel_rfl) (by kernel_rfl) H1 ?_
  have F2 := H1.fr
  clear H1
  refine qplain (y_move rfl rfl) rfl rfl rfl F2 ?_
  clear F2; intro a3 H3
  refine qplain (y_move rfl rfl) rfl rfl rfl H3 ?_
  clear H3; intro a4 H4
  refine qplain (y_shr32 rfl rfl rfl (by omega)) rfl rfl rfl H4 ?_
  clear H4; intro a5 H5
  refine qplain (y_move rfl rfl) rfl rfl rfl H5 ?_
  clear H5; intro a6 H6
  refine qplain (y_move rfl rfl) rfl rfl rfl H6 ?_
  clear H6; intro a7 H7
  refine qplain (y_sub rfl rfl rfl (show IntKind.i64.wrap ((32 : Int) - (n : Int)) = ((32 - n : Nat) : Int) by rw [w64 (by omega) (by omega)]; omega)) rfl rfl rfl H7 ?_
  clear H7; intro a8 H8
  refine qplain (y_shl32 rfl rfl rfl (by omega)) rfl rfl rfl H8 ?_
  clear H8; intro a9 H9
  refine qplain (y_or32 rfl rfl rfl) rfl rfl rfl H9 ?_
  clear H9; intro a10 H10
  refine qplain (y_assign rfl rfl) rfl rfl rfl H10 ?_
  clear H10; intro a11 H11
  refine qfin H11 ?_
  clear H11; intro w12 H12
  refine then_n ?_
  refine wp_ret ?_
  -- return 1
  refine ret1 rfl H12 rfl ?_
  exact ⟨_, [], rfl, ⟨rfl, rfl⟩, H12.sep.sub (List.nil_sublist _)⟩
set_option maxRecDepth 100000 in
set_option maxHeartbeats 4000000 in
theorem dblock (s : List (BitVec 32)) (hs : s.length = 8) (b : List UInt8) (hb : b.length = 64) {w : World} (hG : Glob 0 Sha.K w) : Calls Tryd.prog 35 #[.agg (s.map u32).toArray, str b] w (Gives (.agg ((Sha.block s b).map u32).toArray) [] w) := by
  refine enterL (args := [.agg (s.map u32).toArray, str b]) Tryd.func35 rfl rfl (l := []) (Sep.refl _) ?_
  intro a0 H0
  refine wp_seq ?_
  refine reg ?_
  refine st_box rfl rfl rfl rfl rfl rfl H0 ?_
  clear H0; intro b1 a1 w1 H1
  refine st_alloc rfl z_zero61 rfl rfl rfl H1 ?_
  clear H1; intro b2 a2 w2 H2
  refine fin ?_
  refine then_n ?_
  refine wp_seq ?_
  refine reg ?_
  refine st_alloc rfl z_zero76 rfl rfl rfl H2 ?_
  clear H2; intro b3 a3 w3 H3
  refine fin ?_
  refine then_n ?_
  refine wp_seq ?_
  refine wp_seq ?_
  refine reg ?_
  refine plain (y_move rfl rfl) rfl rfl rfl H3 ?_
  clear H3; intro a4 H4
  refine fin ?_
  refine then_n ?_
  refine wp_block ?_
  refine loop (ι := Nat) (fun i => [(1, str b), (2, .pointer (some ⟨b1, 0, none⟩)), (4, .pointer (some ⟨b2, 0, none⟩)), (5, .pointer (some ⟨b3, 0, none⟩)), (17, .int .i64 (i : Int))]) (fun i => [It.blk b3 76 ((Sha.sched b i).map u32 ++ List.replicate (64 - i) (.int .u32 0)), It.blk b2 61 (List.replicate 8 (.int .u32 0)), It.blk b1 61 (s.map u32)]) (fun i => i ≤ 16) (fun i => 16 - i) (0) (Nat.zero_le _) (H4.weak ⟨rfl, rfl, rfl, rfl, rfl, trivial⟩ rfl) ?_
  clear H4; intro i a5 w5 hok5 H5
  have hok := hok5
  refine wp_seq ?_
  refine reg ?_
  refine plain (y_lss rfl rfl rfl) rfl rfl rfl H5 ?_
  clear H5; intro a6 H6
  refine fin ?_
  refine then_n ?_
  refine wp_seq ?_
  refine cnd_d H6 rfl (fun hc7 => ?_) (fun hc7 => ?_) -- cond 1
  · skip
    refine wp_skip ?_
    refine then_n ?_
    refine wp_seq ?_
    refine wp_block ?_
    refine wp_seq ?_
    refine reg ?_
    refine plain (y_move rfl rfl) rfl rfl rfl H6 ?_
    clear H6; intro a8 H8
    refine plain (y_assign rfl rfl) rfl rfl rfl H8 ?_
    clear H8; intro a9 H9
    refine fin ?_
    refine then_n ?_
    refine treg 31 (by kernel_rfl) (by kernel_rfl) H9 ?_
    clear H9; intro w10 H10
    refine tplain (y_move rfl rfl) rfl rfl rfl H10 ?_
    clear H10; intro a11 H11
    refine tplain (y_move rfl rfl) rfl rfl rfl H11 ?_
    clear H11; intro a12 H12
    refine tplain (y_move rfl rfl) rfl rfl rfl H12 ?_
    clear H12; intro a13 H13
    refine tplain (y_mul rfl rfl rfl (by first | exact w64 (by omega) (by omega) | rfl)) rfl rfl rfl H13 ?_
    clear H13; intro a14 H14
    refine tplain (y_sidx rfl Tryd.underlying9 rfl rfl (by omega) (by omega)) rfl rfl rfl H14 ?_
    clear H14; intro a15 H15
    refine tplain (y_wide rfl Tryd.underlying5 Tryd.underlying59 rfl) rfl rfl rfl H15 ?_
    clear H15; intro a16 H16
    refine tplain (y_shl32 (k := 24) rfl rfl rfl (by omega)) rfl rfl rfl H16 ?_
    clear H16; intro a17 H17
    refine tplain (y_move rfl rfl) rfl rfl rfl H17 ?_
    clear H17; intro a18 H18
    refine tplain (y_move rfl rfl) rfl rfl rfl H18 ?_
    clear H18; intro a19 H19
    refine tplain (y_mul rfl rfl rfl (by first | exact w64 (by omega) (by omega) | rfl)) rfl rfl rfl H19 ?_
    clear H19; intro a20 H20
    refine tplain (y_add rfl rfl rfl (by first | exact w64 (by omega) (by omega) | rfl)) rfl rfl rfl H20 ?_
    clear H20; intro a21 H21
    refine tplain (y_sidx rfl Tryd.underlying9 rfl rfl (by omega) (by omega)) rfl rfl rfl H21 ?_
    clear H21; intro a22 H22
    refine tplain (y_wide rfl Tryd.underlying5 Tryd.underlying59 rfl) rfl rfl rfl H22 ?_
    clear H22; intro a23 H23
    refine tplain (y_shl32 (k := 16) rfl rfl rfl (by omega)) rfl rfl rfl H23 ?_
    clear H23; intro a24 H24
    refine tplain (y_or32 rfl rfl rfl) rfl rfl rfl H24 ?_
    clear H24; intro a25 H25
    refine tplain (y_move rfl rfl) rfl rfl rfl H25 ?_
    clear H25; intro a26 H26
    refine tplain (y_move rfl rfl) rfl rfl rfl H26 ?_
    clear H26; intro a27 H27
    refine tplain (y_mul rfl rfl rfl (by first | exact w64 (by omega) (by omega) | rfl)) rfl rfl rfl H27 ?_
    clear H27; intro a28 H28
    refine tplain (y_add rfl rfl rfl (by first | exact w64 (by omega) (by omega) | rfl)) rfl rfl rfl H28 ?_
    clear H28; intro a29 H29
    refine tplain (y_sidx rfl Tryd.underlying9 rfl rfl (by omega) (by omega)) rfl rfl rfl H29 ?_
    clear H29; intro a30 H30
    refine tplain (y_wide rfl Tryd.underlying5 Tryd.underlying59 rfl) rfl rfl rfl H30 ?_
    clear H30; intro a31 H31
    refine tplain (y_shl32 (k := 8) rfl rfl rfl (by omega)) rfl rfl rfl H31 ?_
    clear H31; intro a32 H32
    refine tplain (y_or32 rfl rfl rfl) rfl rfl rfl H32 ?_
    clear H32; intro a33 H33
    refine tplain (y_move rfl rfl) rfl rfl rfl H33 ?_
    clear H33; intro a34 H34
    refine tplain (y_move rfl rfl) rfl rfl rfl H34 ?_
    clear H34; intro a35 H35
    refine tplain (y_mul rfl rfl rfl (by first | exact w64 (by omega) (by omega) | rfl)) rfl rfl rfl H35 ?_
    clear H35; intro a36 H36
    refine tplain (y_add rfl rfl rfl (by first | exact w64 (by omega) (by omega) | rfl)) rfl rfl rfl H36 ?_
    clear H36; intro a37 H37
    refine tplain (y_sidx rfl Tryd.underlying9 rfl rfl (by omega) (by omega)) rfl rfl rfl H37 ?_
    clear H37; intro a38 H38
    refine tplain (y_wide rfl Tryd.underlying5 Tryd.underlying59 rfl) rfl rfl rfl H38 ?_
    clear H38; intro a39 H39
    refine tplain (y_or32 rfl rfl rfl) rfl rfl rfl H39 ?_
    clear H39; intro a40 H40
    refine tplain (y_ixA rfl Tryd.underlying76 z_size59 rfl rfl (by omega) (by omega) rfl) rfl rfl rfl H40 ?_
    clear H40; intro a41 H41
    refine tfin ?_
    refine st_store1 rfl z_size59 rfl rfl rfl (by repeat (first | exact Upd.head _ _ _ | apply Upd.tail)) (by first | decide | (simp; omega)) rfl rfl H41 ?_
    clear H41; intro w42 H42
    refine fin ?_
    refine inb_n ?_
    refine then_n ?_
    refine reg ?_
    refine plain (y_add rfl rfl rfl (by first | exact w64 (by omega) (by omega) | rfl)) rfl rfl rfl H42 ?_
    clear H42; intro a43 H43
    refine plain (y_move rfl rfl) rfl rfl rfl H43 ?_
    clear H43; intro a44 H44
    refine fin ?_
    refine then_n ?_
    refine ⟨i + 1, by omega, by omega, H44.weak ⟨rfl, rfl, rfl, rfl, fi rfl (by omega), trivial⟩ (ib2 ?_ rfl)⟩
    have e0 : (4 * (i : Int)).toNat = 4 * i := by omega
    have e1 : (4 * (i : Int) + 1).toNat = 4 * i + 1 := by omega
    have e2 : (4 * (i : Int) + 2).toNat = 4 * i + 2 := by omega
    have e3 : (4 * (i : Int) + 3).toNat = 4 * i + 3 := by omega
    rw [e0, e1, e2, e3, Sha.sched_wd b (by omega)]
    exact grow_set (Sha.sched b i) _ i 64 _ (Sha.sched_length b i) (by omega)
  · skip
    refine wp_exit ?_
    refine then_x ?_
    refine then_x ?_
    refine inb_hit ?_
    refine then_n ?_
    refine wp_seq ?_
    refine wp_seq ?_
    refine reg ?_
    refine plain (y_assign rfl rfl) rfl rfl rfl H6 ?_
    clear H6; intro a45 H45
    refine fin ?_
    refine then_n ?_
    refine wp_block ?_
    refine loop (ι := Nat) (fun t => [(2, .pointer (some ⟨b1, 0, none⟩)), (4, .pointer (some ⟨b2, 0, none⟩)), (5, .pointer (some ⟨b3, 0, none⟩)), (7, .int .i64 (t : Int))]) (fun t => [It.blk b3 76 ((Sha.sched b t).map u32 ++ List.replicate (64 - t) (.int .u32 0)), It.blk b2 61 (List.replicate 8 (.int .u32 0)), It.blk b1 61 (s.map u32)]) (fun t => 16 ≤ t ∧ t ≤ 64) (fun t => 64 - t) (16) (by decide) (H45.weak ⟨rfl, rfl, rfl, rfl, trivial⟩ (by rw [show i = 16 by omega])) ?_
    clear H45; intro t a46 w46 hok46 H46
    have hok2 := hok46
    have hsl := Sha.sched_length b t
    refine wp_seq ?_
    refine wp_seq ?_
    refine reg ?_
    refine plain (y_move rfl rfl) rfl rfl rfl H46 ?_
    clear H46; intro a47 H47
    refine plain (y_lss rfl rfl rfl) rfl rfl rfl H47 ?_
    clear H47; intro a48 H48
    refine fin ?_
    refine then_n ?_
    refine cnd_d H48 rfl (fun hc49 => ?_) (fun hc49 => ?_) -- cond 2
    · skip
      refine wp_skip ?_
      refine then_n ?_
      refine wp_seq ?_
      refine wp_block ?_
      refine wp_seq ?_
      refine qreg (by kernel_rfl) (by kernel_rfl) H48 ?_
      have F50 := H48.fr
      clear H48
      refine qplain (y_move rfl rfl) rfl rfl rfl F50 ?_
      clear F50; intro a51 H51
      refine qplain (y_sub rfl rfl rfl (by first | exact w64 (by omega) (by omega) | rfl)) rfl rfl rfl H51 ?_
      clear H51; intro a52 H52
      refine qplain (y_ixA rfl Tryd.underlying76 z_size59 rfl rfl (by omega) (by omega) rfl) rfl rfl rfl H52 ?_
      clear H52; intro a53 H53
      refine qplain (y_loadB rfl z_agg59 rfl (by repeat (first | exact List.Mem.head _ | apply List.Mem.tail)) (by rw [show 0 + ((t : Int) - 15).toNat * 1 = t - 15 by omega]; exact grow_get _ _ _ (by omega))) rfl rfl rfl H53 ?_
      clear H53; intro a54 H54
      refine qplain (y_move rfl rfl) rfl rfl rfl H54 ?_
      clear H54; intro a55 H55
      refine qplain (y_sub rfl rfl rfl (by first | exact w64 (by omega) (by omega) | rfl)) rfl rfl rfl H55 ?_
      clear H55; intro a56 H56
      refine qplain (y_ixA rfl Tryd.underlying76 z_size59 rfl rfl (by omega) (by omega) rfl) rfl rfl rfl H56 ?_
      clear H56; intro a57 H57
      refine qplain (y_loadB rfl z_agg59 rfl (by repeat (first | exact List.Mem.head _ | apply List.Mem.tail)) (by rw [show 0 + ((t : Int) - 2).toNat * 1 = t - 2 by omega]; exact grow_get _ _ _ (by omega))) rfl rfl rfl H57 ?_
      clear H57; intro a58 H58
      refine qplain (y_assign rfl rfl) rfl rfl rfl H58 ?_
      clear H58; intro a59 H59
      refine qplain (y_assign rfl rfl) rfl rfl rfl H59 ?_
      clear H59; intro a60 H60
      refine qfin H60 ?_
      clear H60; intro w61 H61
      refine then_n ?_
      refine hreg [It.pre b3 76 64 ((Sha.sched b t).map u32)] (fun _ h => ((Sep.toPre (b := b3) (n := 64) (cs := (Sha.sched b t).map u32) h (by repeat (first | exact Upd.head _ _ _ | apply Upd.tail)) ⟨_, rfl⟩ (by simp [hsl]; omega)).sub (by first | exact List.nil_sublist _ | exact List.Sublist.refl _ | repeat (first | exact List.Sublist.refl _ | exact List.nil_sublist _ | apply List.Sublist.cons_cons | apply List.Sublist.cons)))) (by kernel_rfl) H61 ?_
      clear H61; intro w62 H62
      refine htake 0 rfl (by kernel_rfl) (y_move rfl rfl) rfl rfl rfl (fun _ h => ((Sep.toPre (b := b3) (n := 64) (cs := (Sha.sched b t).map u32) h (by repeat (first | exact Upd.head _ _ _ | apply Upd.tail)) ⟨_, rfl⟩ (by simp [hsl]; omega)).sub (by first | exact List.nil_sublist _ | exact List.Sublist.refl _ | repeat (first | exact List.Sublist.refl _ | exact List.nil_sublist _ | apply List.Sublist.cons_cons | apply List.Sublist.cons)))) H62 ?_
      clear H62; intro a63 H63
      refine htake 1 rfl (by kernel_rfl) (y_move rfl rfl) rfl rfl rfl (fun _ h => ((Sep.toPre (b := b3) (n := 64) (cs := (Sha.sched b t).map u32) h (by repeat (first | exact Upd.head _ _ _ | apply Upd.tail)) ⟨_, rfl⟩ (by simp [hsl]; omega)).sub (by first | exact List.nil_sublist _ | exact List.Sublist.refl _ | repeat (first | exact List.Sublist.refl _ | exact List.nil_sublist _ | apply List.Sublist.cons_cons | apply List.Sublist.cons)))) H63 ?_
      clear H63; intro a64 H64
      refine htake 2 rfl (by kernel_rfl) (y_sub rfl rfl rfl (by first | exact w64 (by omega) (by omega) | rfl)) rfl rfl rfl (fun _ h => ((Sep.toPre (b := b3) (n := 64) (cs := (Sha.sched b t).map u32) h (by repeat (first | exact Upd.head _ _ _ | apply Upd.tail)) ⟨_, rfl⟩ (by simp [hsl]; omega)).sub (by first | exact List.nil_sublist _ | exact List.Sublist.refl _ | repeat (first | exact List.Sublist.refl _ | exact List.nil_sublist _ | apply List.Sublist.cons_cons | apply List.Sublist.cons)))) H64 ?_
      clear H64; intro a65 H65
      refine htake 3 rfl (by kernel_rfl) (y_ixA rfl Tryd.underlying76 z_size59 rfl rfl (by omega) (by omega) rfl) rfl rfl rfl (fun _ h => ((Sep.toPre (b := b3) (n := 64) (cs := (Sha.sched b t).map u32) h (by repeat (first | exact Upd.head _ _ _ | apply Upd.tail)) ⟨_, rfl⟩ (by simp [hsl]; omega)).sub (by first | exact List.nil_sublist _ | exact List.Sublist.refl _ | repeat (first | exact List.Sublist.refl _ | exact List.nil_sublist _ | apply List.Sublist.cons_cons | apply List.Sublist.cons)))) H65 ?_
      clear H65; intro a66 H66
      refine htake 4 rfl (by kernel_rfl) (y_loadP rfl z_agg59 rfl (by repeat (first | exact List.Mem.head _ | apply List.Mem.tail)) (by rw [show 0 + ((t : Int) - 16).toNat * 1 = t - 16 by omega]; exact u32_get _ _ (by omega))) rfl rfl rfl (fun _ h => ((Sep.toPre (b := b3) (n := 64) (cs := (Sha.sched b t).map u32) h (by repeat (first | exact Upd.head _ _ _ | apply Upd.tail)) ⟨_, rfl⟩ (by simp [hsl]; omega)).sub (by first | exact List.nil_sublist _ | exact List.Sublist.refl _ | repeat (first | exact List.Sublist.refl _ | exact List.nil_sublist _ | apply List.Sublist.cons_cons | apply List.Sublist.cons)))) H66 ?_
      clear H66; intro a67 H67
      refine htake 5 rfl (by kernel_rfl) (y_move rfl rfl) rfl rfl rfl (fun _ h => ((Sep.toPre (b := b3) (n := 64) (cs := (Sha.sched b t).map u32) h (by repeat (first | exact Upd.head _ _ _ | apply Upd.tail)) ⟨_, rfl⟩ (by simp [hsl]; omega)).sub (by first | exact List.nil_sublist _ | exact List.Sublist.refl _ | repeat (first | exact List.Sublist.refl _ | exact List.nil_sublist _ | apply List.Sublist.cons_cons | apply List.Sublist.cons)))) H67 ?_
      clear H67; intro a68 H68
      refine htake 6 rfl (by kernel_rfl) (y_sub rfl rfl rfl (by first | exact w64 (by omega) (by omega) | rfl)) rfl rfl rfl (fun _ h => ((Sep.toPre (b := b3) (n := 64) (cs := (Sha.sched b t).map u32) h (by repeat (first | exact Upd.head _ _ _ | apply Upd.tail)) ⟨_, rfl⟩ (by simp [hsl]; omega)).sub (by first | exact List.nil_sublist _ | exact List.Sublist.refl _ | repeat (first | exact List.Sublist.refl _ | exact List.nil_sublist _ | apply List.Sublist.cons_cons | apply List.Sublist.cons)))) H68 ?_
      clear H68; intro a69 H69
      refine htake 7 rfl (by kernel_rfl) (y_ixA rfl Tryd.underlying76 z_size59 rfl rfl (by omega) (by omega) rfl) rfl rfl rfl (fun _ h => ((Sep.toPre (b := b3) (n := 64) (cs := (Sha.sched b t).map u32) h (by repeat (first | exact Upd.head _ _ _ | apply Upd.tail)) ⟨_, rfl⟩ (by simp [hsl]; omega)).sub (by first | exact List.nil_sublist _ | exact List.Sublist.refl _ | repeat (first | exact List.Sublist.refl _ | exact List.nil_sublist _ | apply List.Sublist.cons_cons | apply List.Sublist.cons)))) H69 ?_
      clear H69; intro a70 H70
      refine htake 8 rfl (by kernel_rfl) (y_loadP rfl z_agg59 rfl (by repeat (first | exact List.Mem.head _ | apply List.Mem.tail)) (by rw [show 0 + ((t : Int) - 7).toNat * 1 = t - 7 by omega]; exact u32_get _ _ (by omega))) rfl rfl rfl (fun _ h => ((Sep.toPre (b := b3) (n := 64) (cs := (Sha.sched b t).map u32) h (by repeat (first | exact Upd.head _ _ _ | apply Upd.tail)) ⟨_, rfl⟩ (by simp [hsl]; omega)).sub (by first | exact List.nil_sublist _ | exact List.Sublist.refl _ | repeat (first | exact List.Sublist.refl _ | exact List.nil_sublist _ | apply List.Sublist.cons_cons | apply List.Sublist.cons)))) H70 ?_
      clear H70; intro a71 H71
      refine htake 9 rfl (by kernel_rfl) (y_add32 rfl rfl rfl) rfl rfl rfl (fun _ h => ((Sep.toPre (b := b3) (n := 64) (cs := (Sha.sched b t).map u32) h (by repeat (first | exact Upd.head _ _ _ | apply Upd.tail)) ⟨_, rfl⟩ (by simp [hsl]; omega)).sub (by first | exact List.nil_sublist _ | exact List.Sublist.refl _ | repeat (first | exact List.Sublist.refl _ | exact List.nil_sublist _ | apply List.Sublist.cons_cons | apply List.Sublist.cons)))) H71 ?_
      clear H71; intro a72 H72
      refine htake 10 rfl (by kernel_rfl) (y_move rfl rfl) rfl rfl rfl (fun _ h => ((Sep.toPre (b := b3) (n := 64) (cs := (Sha.sched b t).map u32) h (by repeat (first | exact Upd.head _ _ _ | apply Upd.tail)) ⟨_, rfl⟩ (by simp [hsl]; omega)).sub (by first | exact List.nil_sublist _ | exact List.Sublist.refl _ | repeat (first | exact List.Sublist.refl _ | exact List.nil_sublist _ | apply List.Sublist.cons_cons | apply List.Sublist.cons)))) H72 ?_
      clear H72; intro a73 H73
      refine htake 12 rfl (by kernel_rfl) (y_move rfl rfl) rfl rfl rfl (fun _ h => ((Sep.toPre (b := b3) (n := 64) (cs := (Sha.sched b t).map u32) h (by repeat (first | exact Upd.head _ _ _ | apply Upd.tail)) ⟨_, rfl⟩ (by simp [hsl]; omega)).sub (by first | exact List.nil_sublist _ | exact List.Sublist.refl _ | repeat (first | exact List.Sublist.refl _ | exact List.nil_sublist _ | apply List.Sublist.cons_cons | apply List.Sublist.cons)))) H73 ?_
      clear H73; intro a74 H74
      refine htake 15 rfl (by kernel_rfl) (y_move rfl rfl) rfl rfl rfl (fun _ h => ((Sep.toPre (b := b3) (n := 64) (cs := (Sha.sched b t).map u32) h (by repeat (first | exact Upd.head _ _ _ | apply Upd.tail)) ⟨_, rfl⟩ (by simp [hsl]; omega)).sub (by first | exact List.nil_sublist _ | exact List.Sublist.refl _ | repeat (first | exact List.Sublist.refl _ | exact List.nil_sublist _ | apply List.Sublist.cons_cons | apply List.Sublist.cons)))) H74 ?_
      clear H74; intro a75 H75
      refine htake 16 rfl (by kernel_rfl) (y_shr32 (k := 3) rfl rfl rfl (by omega)) rfl rfl rfl (fun _ h => ((Sep.toPre (b := b3) (n := 64) (cs := (Sha.sched b t).map u32) h (by repeat (first | exact Upd.head _ _ _ | apply Upd.tail)) ⟨_, rfl⟩ (by simp [hsl]; omega)).sub (by first | exact List.nil_sublist _ | exact List.Sublist.refl _ | repeat (first | exact List.Sublist.refl _ | exact List.nil_sublist _ | apply List.Sublist.cons_cons | apply List.Sublist.cons)))) H75 ?_
      clear H75; intro a76 H76
      refine htake 19 rfl (by kernel_rfl) (y_move rfl rfl) rfl rfl rfl (fun _ h => ((Sep.toPre (b := b3) (n := 64) (cs := (Sha.sched b t).map u32) h (by repeat (first | exact Upd.head _ _ _ | apply Upd.tail)) ⟨_, rfl⟩ (by simp [hsl]; omega)).sub (by first | exact List.nil_sublist _ | exact List.Sublist.refl _ | repeat (first | exact List.Sublist.refl _ | exact List.nil_sublist _ | apply List.Sublist.cons_cons | apply List.Sublist.cons)))) H76 ?_
      clear H76; intro a77 H77
      refine htake 21 rfl (by kernel_rfl) (y_move rfl rfl) rfl rfl rfl (fun _ h => ((Sep.toPre (b := b3) (n := 64) (cs := (Sha.sched b t).map u32) h (by repeat (first | exact Upd.head _ _ _ | apply Upd.tail)) ⟨_, rfl⟩ (by simp [hsl]; omega)).sub (by first | exact List.nil_sublist _ | exact List.Sublist.refl _ | repeat (first | exact List.Sublist.refl _ | exact List.nil_sublist _ | apply List.Sublist.cons_cons | apply List.Sublist.cons)))) H77 ?_
      clear H77; intro a78 H78
      refine htake 24 rfl (by kernel_rfl) (y_move rfl rfl) rfl rfl rfl (fun _ h => ((Sep.toPre (b := b3) (n := 64) (cs := (Sha.sched b t).map u32) h (by repeat (first | exact Upd.head _ _ _ | apply Upd.tail)) ⟨_, rfl⟩ (by simp [hsl]; omega)).sub (by first | exact List.nil_sublist _ | exact List.Sublist.refl _ | repeat (first | exact List.Sublist.refl _ | exact List.nil_sublist _ | apply List.Sublist.cons_cons | apply List.Sublist.cons)))) H78 ?_
      clear H78; intro a79 H79
      refine htake 25 rfl (by kernel_rfl) (y_shr32 (k := 10) rfl rfl rfl (by omega)) rfl rfl rfl (fun _ h => ((Sep.toPre (b := b3) (n := 64) (cs := (Sha.sched b t).map u32) h (by repeat (first | exact Upd.head _ _ _ | apply Upd.tail)) ⟨_, rfl⟩ (by simp [hsl]; omega)).sub (by first | exact List.nil_sublist _ | exact List.Sublist.refl _ | repeat (first | exact List.Sublist.refl _ | exact List.nil_sublist _ | apply List.Sublist.cons_cons | apply List.Sublist.cons)))) H79 ?_
      clear H79; intro a80 H80
      refine hgo 11 rfl (by kernel_rfl) ?_
      refine st_callg rfl z_call45 rfl rfl rfl rfl H80 (turn _ 7 (by decide) (by decide) _) ?_
      clear H80; intro a81 w81 H81
      refine hfin ((Sep.toPre (b := b3) (n := 64) (cs := (Sha.sched b t).map u32) H81.sep (by repeat (first | exact Upd.head _ _ _ | apply Upd.tail)) ⟨_, rfl⟩ (by simp [hsl]; omega)).sub (by first | exact List.nil_sublist _ | exact List.Sublist.refl _ | repeat (first | exact List.Sublist.refl _ | exact List.nil_sublist _ | apply List.Sublist.cons_cons | apply List.Sublist.cons))) ?_
      refine hgo 13 rfl (by kernel_rfl) ?_
      refine st_callg rfl z_call45 rfl rfl rfl rfl H81 (turn _ 18 (by decide) (by decide) _) ?_
      clear H81; intro a82 w82 H82
      refine hfin ((Sep.toPre (b := b3) (n := 64) (cs := (Sha.sched b t).map u32) H82.sep (by repeat (first | exact Upd.head _ _ _ | apply Upd.tail)) ⟨_, rfl⟩ (by simp [hsl]; omega)).sub (by first | exact List.nil_sublist _ | exact List.Sublist.refl _ | repeat (first | exact List.Sublist.refl _ | exact List.nil_sublist _ | apply List.Sublist.cons_cons | apply List.Sublist.cons))) ?_
      refine htake 14 rfl (by kernel_rfl) (y_xor32 rfl rfl rfl) rfl rfl rfl (fun _ h => ((Sep.toPre (b := b3) (n := 64) (cs := (Sha.sched b t).map u32) h (by repeat (first | exact Upd.head _ _ _ | apply Upd.tail)) ⟨_, rfl⟩ (by simp [hsl]; omega)).sub (by first | exact List.nil_sublist _ | exact List.Sublist.refl _ | repeat (first | exact List.Sublist.refl _ | exact List.nil_sublist _ | apply List.Sublist.cons_cons | apply List.Sublist.cons)))) H82 ?_
      clear H82; intro a83 H83
      refine htake 17 rfl (by kernel_rfl) (y_xor32 rfl rfl rfl) rfl rfl rfl (fun _ h => ((Sep.toPre (b := b3) (n := 64) (cs := (Sha.sched b t).map u32) h (by repeat (first | exact Upd.head _ _ _ | apply Upd.tail)) ⟨_, rfl⟩ (by simp [hsl]; omega)).sub (by first | exact List.nil_sublist _ | exact List.Sublist.refl _ | repeat (first | exact List.Sublist.refl _ | exact List.nil_sublist _ | apply List.Sublist.cons_cons | apply List.Sublist.cons)))) H83 ?_
      clear H83; intro a84 H84
      refine htake 18 rfl (by kernel_rfl) (y_add32 rfl rfl rfl) rfl rfl rfl (fun _ h => ((Sep.toPre (b := b3) (n := 64) (cs := (Sha.sched b t).map u32) h (by repeat (first | exact Upd.head _ _ _ | apply Upd.tail)) ⟨_, rfl⟩ (by simp [hsl]; omega)).sub (by first | exact List.nil_sublist _ | exact List.Sublist.refl _ | repeat (first | exact List.Sublist.refl _ | exact List.nil_sublist _ | apply List.Sublist.cons_cons | apply List.Sublist.cons)))) H84 ?_
      clear H84; intro a85 H85
      refine hgo 20 rfl (by kernel_rfl) ?_
      refine st_callg rfl z_call45 rfl rfl rfl rfl H85 (turn _ 17 (by decide) (by decide) _) ?_
      clear H85; intro a86 w86 H86
      refine hfin ((Sep.toPre (b := b3) (n := 64) (cs := (Sha.sched b t).map u32) H86.sep (by repeat (first | exact Upd.head _ _ _ | apply Upd.tail)) ⟨_, rfl⟩ (by simp [hsl]; omega)).sub (by first | exact List.nil_sublist _ | exact List.Sublist.refl _ | repeat (first | exact List.Sublist.refl _ | exact List.nil_sublist _ | apply List.Sublist.cons_cons | apply List.Sublist.cons))) ?_
      refine hgo 22 rfl (by kernel_rfl) ?_
      refine st_callg rfl z_call45 rfl rfl rfl rfl H86 (turn _ 19 (by decide) (by decide) _) ?_
      clear H86; intro a87 w87 H87
      refine hfin ((Sep.toPre (b := b3) (n := 64) (cs := (Sha.sched b t).map u32) H87.sep (by repeat (first | exact Upd.head _ _ _ | apply Upd.tail)) ⟨_, rfl⟩ (by simp [hsl]; omega)).sub (by first | exact List.nil_sublist _ | exact List.Sublist.refl _ | repeat (first | exact List.Sublist.refl _ | exact List.nil_sublist _ | apply List.Sublist.cons_cons | apply List.Sublist.cons))) ?_
      refine htake 23 rfl (by kernel_rfl) (y_xor32 rfl rfl rfl) rfl rfl rfl (fun _ h => ((Sep.toPre (b := b3) (n := 64) (cs := (Sha.sched b t).map u32) h (by repeat (first | exact Upd.head _ _ _ | apply Upd.tail)) ⟨_, rfl⟩ (by simp [hsl]; omega)).sub (by first | exact List.nil_sublist _ | exact List.Sublist.refl _ | repeat (first | exact List.Sublist.refl _ | exact List.nil_sublist _ | apply List.Sublist.cons_cons | apply List.Sublist.cons)))) H87 ?_
      clear H87; intro a88 H88
      refine htake 26 rfl (by kernel_rfl) (y_xor32 rfl rfl rfl) rfl rfl rfl (fun _ h => ((Sep.toPre (b := b3) (n := 64) (cs := (Sha.sched b t).map u32) h (by repeat (first | exact Upd.head _ _ _ | apply Upd.tail)) ⟨_, rfl⟩ (by simp [hsl]; omega)).sub (by first | exact List.nil_sublist _ | exact List.Sublist.refl _ | repeat (first | exact List.Sublist.refl _ | exact List.nil_sublist _ | apply List.Sublist.cons_cons | apply List.Sublist.cons)))) H88 ?_
      clear H88; intro a89 H89
      refine htake 27 rfl (by kernel_rfl) (y_add32 rfl rfl rfl) rfl rfl rfl (fun _ h => ((Sep.toPre (b := b3) (n := 64) (cs := (Sha.sched b t).map u32) h (by repeat (first | exact Upd.head _ _ _ | apply Upd.tail)) ⟨_, rfl⟩ (by simp [hsl]; omega)).sub (by first | exact List.nil_sublist _ | exact List.Sublist.refl _ | repeat (first | exact List.Sublist.refl _ | exact List.nil_sublist _ | apply List.Sublist.cons_cons | apply List.Sublist.cons)))) H89 ?_
      clear H89; intro a90 H90
      refine htake 28 rfl (by kernel_rfl) (y_ixA rfl Tryd.underlying76 z_size59 rfl rfl (by omega) (by omega) rfl) rfl rfl rfl (fun _ h => ((Sep.toPre (b := b3) (n := 64) (cs := (Sha.sched b t).map u32) h (by repeat (first | exact Upd.head _ _ _ | apply Upd.tail)) ⟨_, rfl⟩ (by simp [hsl]; omega)).sub (by first | exact List.nil_sublist _ | exact List.Sublist.refl _ | repeat (first | exact List.Sublist.refl _ | exact List.nil_sublist _ | apply List.Sublist.cons_cons | apply List.Sublist.cons)))) H90 ?_
      clear H90; intro a91 H91
      refine hgo 29 rfl (by kernel_rfl) ?_
      refine st_store1 rfl z_size59 rfl rfl rfl (by repeat (first | exact Upd.head _ _ _ | apply Upd.tail)) (by first | decide | (simp; omega)) rfl rfl H91 ?_
      clear H91; intro w92 H92
      refine hfin ((Sep.toPre (b := b3) (n := 64) (cs := (Sha.sched b t).map u32) H92.sep (by repeat (first | exact Upd.head _ _ _ | apply Upd.tail)) ⟨_, pre_set _ _ t _ hsl⟩ (by simp [hsl]; omega)).sub (by first | exact List.nil_sublist _ | exact List.Sublist.refl _ | repeat (first | exact List.Sublist.refl _ | exact List.nil_sublist _ | apply List.Sublist.cons_cons | apply List.Sublist.cons))) ?_
      refine hdone (by kernel_rfl) ?_
      refine inb_n ?_
      refine then_n ?_
      refine reg ?_
      refine plain (y_move rfl rfl) rfl rfl rfl H92 ?_
      clear H92; intro a93 H93
      refine plain (y_add rfl rfl rfl (by first | exact w64 (by omega) (by omega) | rfl)) rfl rfl rfl H93 ?_
      clear H93; intro a94 H94
      refine plain (y_assign rfl rfl) rfl rfl rfl H94 ?_
      clear H94; intro a95 H95
      refine fin ?_
      refine then_n ?_
      refine ⟨t + 1, by omega, by omega, H95.weak ⟨rfl, rfl, rfl, fi rfl (by omega), trivial⟩ (ib2 ?_ rfl)⟩
      rw [Sha.sched_next b (by omega)]
      exact grow_set (Sha.sched b t) _ t 64 _ hsl (by omega)
    · skip
      refine wp_exit ?_
      refine then_x ?_
      refine then_x ?_
      refine inb_hit ?_
      refine then_n ?_
      refine wp_seq ?_
      refine reg ?_
      refine plain (y_loadAB rfl z_agg61 z_size61 rfl (by repeat (first | exact List.Mem.head _ | apply List.Mem.tail)) (take_all (by simp [hs])) (by simp [hs])) rfl rfl rfl H48 ?_
      clear H48; intro a96 H96
      refine st_alloc rfl z_zero61 rfl rfl rfl H96 ?_
      clear H96; intro b97 a97 w97 H97
      refine st_store (vs := (s.map u32)) rfl z_size61 rfl rfl rfl (one_u32 _) (by simp [hs]) (by repeat (first | exact Upd.head _ _ _ | apply Upd.tail)) (by decide) rfl rfl H97 ?_
      clear H97; intro w98 H98
      refine fin ?_
      refine then_n ?_
      refine wp_seq ?_
      refine wp_seq ?_
      refine reg ?_
      refine plain (y_move rfl rfl) rfl rfl rfl H98 ?_
      clear H98; intro a99 H99
      refine fin ?_
      refine then_n ?_
      refine wp_block ?_
      have ht64 : t = 64 := by omega
      subst ht64
      refine loop (ι := Nat) (fun t => [(2, .pointer (some ⟨b1, 0, none⟩)), (4, .pointer (some ⟨b2, 0, none⟩)), (5, .pointer (some ⟨b3, 0, none⟩)), (10, .pointer (some ⟨b97, 0, none⟩)), (94, .int .i64 (t : Int))]) (fun t => [It.blk b97 61 ((Sha.rounds s (Sha.sched b 64) t).map u32), It.blk b3 76 ((Sha.sched b 64).map u32 ++ List.replicate (64 - 64) (.int .u32 0)), It.blk b2 61 (List.replicate 8 (.int .u32 0)), It.blk b1 61 (s.map u32)]) (fun t => t ≤ 64) (fun t => 64 - t) (0) (Nat.zero_le _) (H99.weak ⟨rfl, rfl, rfl, rfl, rfl, trivial⟩ (ib2 (spl_all (by simp [hs])) rfl)) ?_
      clear H99; intro t a100 w100 hok100 H100
      have hok3 := hok100
      have hvl := Sha.rounds_length (ws := Sha.sched b 64) hs t
      have hwl := Sha.sched_length b 64
      refine wp_seq ?_
      refine reg ?_
      refine plain (y_lss rfl rfl rfl) rfl rfl rfl H100 ?_
      clear H100; intro a101 H101
      refine fin ?_
      refine then_n ?_
      refine wp_seq ?_
      refine cnd_d H101 rfl (fun hc102 => ?_) (fun hc102 => ?_) -- cond 3
      · skip
        refine wp_skip ?_
        refine then_n ?_
        refine wp_seq ?_
        refine wp_block ?_
        refine wp_seq ?_
        refine reg ?_
        refine plain (y_move rfl rfl) rfl rfl rfl H101 ?_
        clear H101; intro a103 H103
        refine plain (y_assign rfl rfl) rfl rfl rfl H103 ?_
        clear H103; intro a104 H104
        refine fin ?_
        refine then_n ?_
        refine wp_seq ?_
        refine qreg (by kernel_rfl) (by kernel_rfl) H104 ?_
        have F105 := H104.fr
        clear H104
        refine qplain (y_ixA rfl Tryd.underlying61 z_size59 rfl rfl (by omega) (by omega) rfl) rfl rfl rfl F105 ?_
        clear F105; intro a106 H106
        refine qplain (y_loadB rfl z_agg59 rfl (by repeat (first | exact List.Mem.head _ | apply List.Mem.tail)) (u32_get _ 0 (by omega))) rfl rfl rfl H106 ?_
        clear H106; intro a107 H107
        refine qplain (y_ixA rfl Tryd.underlying61 z_size59 rfl rfl (by omega) (by omega) rfl) rfl rfl rfl H107 ?_
        clear H107; intro a108 H108
        refine qplain (y_loadB rfl z_agg59 rfl (by repeat (first | exact List.Mem.head _ | apply List.Mem.tail)) (u32_get _ 4 (by omega))) rfl rfl rfl H108 ?_
        clear H108; intro a109 H109
        refine qplain (y_assign rfl rfl) rfl rfl rfl H109 ?_
        clear H109; intro a110 H110
        refine qplain (y_assign rfl rfl) rfl rfl rfl H110 ?_
        clear H110; intro a111 H111
        refine qfin H111 ?_
        clear H111; intro w112 H112
        refine then_n ?_
        refine wp_seq ?_
        refine qreg (by kernel_rfl) (by kernel_rfl) H112 ?_
        have F113 := H112.fr
        clear H112
        refine qplain (y_ixA rfl Tryd.underlying61 z_size59 rfl rfl (by omega) (by omega) rfl) rfl rfl rfl F113 ?_
        clear F113; intro a114 H114
        refine qplain (y_loadB rfl z_agg59 rfl (by repeat (first | exact List.Mem.head _ | apply List.Mem.tail)) (u32_get _ 7 (by omega))) rfl rfl rfl H114 ?_
        clear H114; intro a115 H115
        refine qplain (y_move rfl rfl) rfl rfl rfl H115 ?_
        clear H115; intro a116 H116
        refine qcallg rfl z_call45 rfl rfl rfl rfl H116 (fun w hs => (turn _ 6 (by decide) (by decide) _)) ?_
        clear H116; intro a117 H117
        refine qplain (y_move rfl rfl) rfl rfl rfl H117 ?_
        clear H117; intro a118 H118
        refine qcallg rfl z_call45 rfl rfl rfl rfl H118 (fun w hs => (turn _ 11 (by decide) (by decide) _)) ?_
        clear H118; intro a119 H119
        refine qplain (y_xor32 rfl rfl rfl) rfl rfl rfl H119 ?_
        clear H119; intro a120 H120
        refine qplain (y_move rfl rfl) rfl rfl rfl H120 ?_
        clear H120; intro a121 H121
        refine qcallg rfl z_call45 rfl rfl rfl rfl H121 (fun w hs => (turn _ 25 (by decide) (by decide) _)) ?_
        clear H121; intro a122 H122
        refine qplain (y_xor32 rfl rfl rfl) rfl rfl rfl H122 ?_
        clear H122; intro a123 H123
        refine qplain (y_add32 rfl rfl rfl) rfl rfl rfl H123 ?_
        clear H123; intro a124 H124
        refine qplain (y_move rfl rfl) rfl rfl rfl H124 ?_
        clear H124; intro a125 H125
        refine qplain (y_ixA rfl Tryd.underlying61 z_size59 rfl rfl (by omega) (by omega) rfl) rfl rfl rfl H125 ?_
        clear H125; intro a126 H126
        refine qplain (y_loadB rfl z_agg59 rfl (by repeat (first | exact List.Mem.head _ | apply List.Mem.tail)) (u32_get _ 5 (by omega))) rfl rfl rfl H126 ?_
        clear H126; intro a127 H127
        refine qplain (y_and32 rfl rfl rfl) rfl rfl rfl H127 ?_
        clear H127; intro a128 H128
        refine qplain (y_move rfl rfl) rfl rfl rfl H128 ?_
        clear H128; intro a129 H129
        refine qplain (y_not32 rfl rfl) rfl rfl rfl H129 ?_
        clear H129; intro a130 H130
        refine qplain (y_ixA rfl Tryd.underlying61 z_size59 rfl rfl (by omega) (by omega) rfl) rfl rfl rfl H130 ?_
        clear H130; intro a131 H131
        refine qplain (y_loadB rfl z_agg59 rfl (by repeat (first | exact List.Mem.head _ | apply List.Mem.tail)) (u32_get _ 6 (by omega))) rfl rfl rfl H131 ?_
        clear H131; intro a132 H132
        refine qplain (y_and32 rfl rfl rfl) rfl rfl rfl H132 ?_
        clear H132; intro a133 H133
        refine qplain (y_xor32 rfl rfl rfl) rfl rfl rfl H133 ?_
        clear H133; intro a134 H134
        refine qplain (y_add32 rfl rfl rfl) rfl rfl rfl H134 ?_
        clear H134; intro a135 H135
        refine qplain (y_move rfl rfl) rfl rfl rfl H135 ?_
        clear H135; intro a136 H136
        refine qplain (y_ixA rfl Tryd.underlying76 z_size59 rfl rfl (by omega) (by omega) rfl) rfl rfl rfl H136 ?_
        clear H136; intro a137 H137
        refine qplain (y_loadO rfl z_agg59 rfl (hG.get (by show t < 64; omega)) (by simp)) rfl rfl rfl H137 ?_
        clear H137; intro a138 H138
        refine qplain (y_add32 rfl rfl rfl) rfl rfl rfl H138 ?_
        clear H138; intro a139 H139
        refine qplain (y_move rfl rfl) rfl rfl rfl H139 ?_
        clear H139; intro a140 H140
        refine qplain (y_ixA rfl Tryd.underlying76 z_size59 rfl rfl (by omega) (by omega) rfl) rfl rfl rfl H140 ?_
        clear H140; intro a141 H141
        refine qplain (y_loadB rfl z_agg59 rfl (by repeat (first | exact List.Mem.head _ | apply List.Mem.tail)) (by rw [show 0 + (t : Int).toNat * 1 = t by omega]; exact grow_get _ _ _ (by omega))) rfl rfl rfl H141 ?_
        clear H141; intro a142 H142
        refine qplain (y_add32 rfl rfl rfl) rfl rfl rfl H142 ?_
        clear H142; intro a143 H143
        refine qplain (y_assign rfl rfl) rfl rfl rfl H143 ?_
        clear H143; intro a144 H144
        refine qfin H144 ?_
        clear H144; intro w145 H145
        refine then_n ?_
        refine wp_seq ?_
        refine qreg (by kernel_rfl) (by kernel_rfl) H145 ?_
        have F146 := H145.fr
        clear H145
        refine qplain (y_move rfl rfl) rfl rfl rfl F146 ?_
        clear F146; intro a147 H147
        refine qcallg rfl z_call45 rfl rfl rfl rfl H147 (fun w hs => (turn _ 2 (by decide) (by decide) _)) ?_
        clear H147; intro a148 H148
        refine qplain (y_move rfl rfl) rfl rfl rfl H148 ?_
        clear H148; intro a149 H149
        refine qcallg rfl z_call45 rfl rfl rfl rfl H149 (fun w hs => (turn _ 13 (by decide) (by decide) _)) ?_
        clear H149; intro a150 H150
        refine qplain (y_xor32 rfl rfl rfl) rfl rfl rfl H150 ?_
        clear H150; intro a151 H151
        refine qplain (y_move rfl rfl) rfl rfl rfl H151 ?_
        clear H151; intro a152 H152
        refine qcallg rfl z_call45 rfl rfl rfl rfl H152 (fun w hs => (turn _ 22 (by decide) (by decide) _)) ?_
        clear H152; intro a153 H153
        refine qplain (y_xor32 rfl rfl rfl) rfl rfl rfl H153 ?_
        clear H153; intro a154 H154
        refine qplain (y_move rfl rfl) rfl rfl rfl H154 ?_
        clear H154; intro a155 H155
        refine qplain (y_ixA rfl Tryd.underlying61 z_size59 rfl rfl (by omega) (by omega) rfl) rfl rfl rfl H155 ?_
        clear H155; intro a156 H156
        refine qplain (y_loadB rfl z_agg59 rfl (by repeat (first | exact List.Mem.head _ | apply List.Mem.tail)) (u32_get _ 1 (by omega))) rfl rfl rfl H156 ?_
        clear H156; intro a157 H157
        refine qplain (y_and32 rfl rfl rfl) rfl rfl rfl H157 ?_
        clear H157; intro a158 H158
        refine qplain (y_move rfl rfl) rfl rfl rfl H158 ?_
        clear H158; intro a159 H159
        refine qplain (y_ixA rfl Tryd.underlying61 z_size59 rfl rfl (by omega) (by omega) rfl) rfl rfl rfl H159 ?_
        clear H159; intro a160 H160
        refine qplain (y_loadB rfl z_agg59 rfl (by repeat (first | exact List.Mem.head _ | apply List.Mem.tail)) (u32_get _ 2 (by omega))) rfl rfl rfl H160 ?_
        clear H160; intro a161 H161
        refine qplain (y_and32 rfl rfl rfl) rfl rfl rfl H161 ?_
        clear H161; intro a162 H162
        refine qplain (y_xor32 rfl rfl rfl) rfl rfl rfl H162 ?_
        clear H162; intro a163 H163
        refine qplain (y_ixA rfl Tryd.underlying61 z_size59 rfl rfl (by omega) (by omega) rfl) rfl rfl rfl H163 ?_
        clear H163; intro a164 H164
        refine qplain (y_loadB rfl z_agg59 rfl (by repeat (first | exact List.Mem.head _ | apply List.Mem.tail)) (u32_get _ 1 (by omega))) rfl rfl rfl H164 ?_
        clear H164; intro a165 H165
        refine qplain (y_ixA rfl Tryd.underlying61 z_size59 rfl rfl (by omega) (by omega) rfl) rfl rfl rfl H165 ?_
        clear H165; intro a166 H166
        refine qplain (y_loadB rfl z_agg59 rfl (by repeat (first | exact List.Mem.head _ | apply List.Mem.tail)) (u32_get _ 2 (by omega))) rfl rfl rfl H166 ?_
        clear H166; intro a167 H167
        refine qplain (y_and32 rfl rfl rfl) rfl rfl rfl H167 ?_
        clear H167; intro a168 H168
        refine qplain (y_xor32 rfl rfl rfl) rfl rfl rfl H168 ?_
        clear H168; intro a169 H169
        refine qplain (y_add32 rfl rfl rfl) rfl rfl rfl H169 ?_
        clear H169; intro a170 H170
        refine qplain (y_assign rfl rfl) rfl rfl rfl H170 ?_
        clear H170; intro a171 H171
        refine qfin H171 ?_
        clear H171; intro w172 H172
        refine then_n ?_
        refine reg ?_
        refine plain (y_move rfl rfl) rfl rfl rfl H172 ?_
        clear H172; intro a173 H173
        refine plain (y_move rfl rfl) rfl rfl rfl H173 ?_
        clear H173; intro a174 H174
        refine plain (y_add32 rfl rfl rfl) rfl rfl rfl H174 ?_
        clear H174; intro a175 H175
        refine plain (y_ixA rfl Tryd.underlying61 z_size59 rfl rfl (by omega) (by omega) rfl) rfl rfl rfl H175 ?_
        clear H175; intro a176 H176
        refine plain (y_loadB rfl z_agg59 rfl (by repeat (first | exact List.Mem.head _ | apply List.Mem.tail)) (u32_get _ 0 (by omega))) rfl rfl rfl H176 ?_
        clear H176; intro a177 H177
        refine plain (y_ixA rfl Tryd.underlying61 z_size59 rfl rfl (by omega) (by omega) rfl) rfl rfl rfl H177 ?_
        clear H177; intro a178 H178
        refine plain (y_loadB rfl z_agg59 rfl (by repeat (first | exact List.Mem.head _ | apply List.Mem.tail)) (u32_get _ 1 (by omega))) rfl rfl rfl H178 ?_
        clear H178; intro a179 H179
        refine plain (y_ixA rfl Tryd.underlying61 z_size59 rfl rfl (by omega) (by omega) rfl) rfl rfl rfl H179 ?_
        clear H179; intro a180 H180
        refine plain (y_loadB rfl z_agg59 rfl (by repeat (first | exact List.Mem.head _ | apply List.Mem.tail)) (u32_get _ 2 (by omega))) rfl rfl rfl H180 ?_
        clear H180; intro a181 H181
        refine plain (y_ixA rfl Tryd.underlying61 z_size59 rfl rfl (by omega) (by omega) rfl) rfl rfl rfl H181 ?_
        clear H181; intro a182 H182
        refine plain (y_loadB rfl z_agg59 rfl (by repeat (first | exact List.Mem.head _ | apply List.Mem.tail)) (u32_get _ 3 (by omega))) rfl rfl rfl H182 ?_
        clear H182; intro a183 H183
        refine plain (y_move rfl rfl) rfl rfl rfl H183 ?_
        clear H183; intro a184 H184
        refine plain (y_add32 rfl rfl rfl) rfl rfl rfl H184 ?_
        clear H184; intro a185 H185
        refine plain (y_ixA rfl Tryd.underlying61 z_size59 rfl rfl (by omega) (by omega) rfl) rfl rfl rfl H185 ?_
        clear H185; intro a186 H186
        refine plain (y_loadB rfl z_agg59 rfl (by repeat (first | exact List.Mem.head _ | apply List.Mem.tail)) (u32_get _ 4 (by omega))) rfl rfl rfl H186 ?_
        clear H186; intro a187 H187
        refine plain (y_ixA rfl Tryd.underlying61 z_size59 rfl rfl (by omega) (by omega) rfl) rfl rfl rfl H187 ?_
        clear H187; intro a188 H188
        refine plain (y_loadB rfl z_agg59 rfl (by repeat (first | exact List.Mem.head _ | apply List.Mem.tail)) (u32_get _ 5 (by omega))) rfl rfl rfl H188 ?_
        clear H188; intro a189 H189
        refine plain (y_ixA rfl Tryd.underlying61 z_size59 rfl rfl (by omega) (by omega) rfl) rfl rfl rfl H189 ?_
        clear H189; intro a190 H190
        refine plain (y_loadB rfl z_agg59 rfl (by repeat (first | exact List.Mem.head _ | apply List.Mem.tail)) (u32_get _ 6 (by omega))) rfl rfl rfl H190 ?_
        clear H190; intro a191 H191
        refine plain (y_buildA rfl z_zero61 Tryd.underlying61 z_size59 rfl rfl) rfl rfl rfl H191 ?_
        clear H191; intro a192 H192
        refine st_store (vs := _) rfl z_size61 rfl rfl rfl rfl rfl (by repeat (first | exact Upd.head _ _ _ | apply Upd.tail)) (by simp [hvl]) rfl rfl H192 ?_
        clear H192; intro w193 H193
        refine fin ?_
        refine inb_n ?_
        refine then_n ?_
        refine reg ?_
        refine plain (y_add rfl rfl rfl (by first | exact w64 (by omega) (by omega) | rfl)) rfl rfl rfl H193 ?_
        clear H193; intro a194 H194
        refine plain (y_move rfl rfl) rfl rfl rfl H194 ?_
        clear H194; intro a195 H195
        refine fin ?_
        refine then_n ?_
        refine ⟨t + 1, by omega, by omega, H195.weak ⟨rfl, rfl, rfl, rfl, fi rfl (by omega), trivial⟩ (ib2 ((spl_all (by rw [List.length_map, hvl]; rfl)).trans ?_) rfl)⟩
        rfl
      · skip
        refine wp_exit ?_
        refine then_x ?_
        refine then_x ?_
        refine inb_hit ?_
        refine then_n ?_
        refine wp_seq ?_
        refine wp_seq ?_
        refine reg ?_
        refine plain (y_move rfl rfl) rfl rfl rfl H101 ?_
        clear H101; intro a196 H196
        refine fin ?_
        refine then_n ?_
        refine wp_block ?_
        have ht64 : t = 64 := by omega
        subst ht64
        refine loop (ι := Nat) (fun i => [(2, .pointer (some ⟨b1, 0, none⟩)), (4, .pointer (some ⟨b2, 0, none⟩)), (10, .pointer (some ⟨b97, 0, none⟩)), (176, .int .i64 (i : Int))]) (fun i => [It.blk b97 61 ((Sha.rounds s (Sha.sched b 64) 64).map u32), It.blk b3 76 ((Sha.sched b 64).map u32 ++ List.replicate (64 - 64) (.int .u32 0)), It.blk b2 61 (List.replicate 8 (.int .u32 0)), It.blk b1 61 ((Sha.mix s (Sha.rounds s (Sha.sched b 64) 64) i).map u32)]) (fun i => i ≤ 8) (fun i => 8 - i) (0) (Nat.zero_le _) (H196.weak ⟨rfl, rfl, rfl, rfl, trivial⟩ (by rw [Sha.mix_zero])) ?_
        clear H196; intro i a197 w197 hok197 H197
        have hok4 := hok197
        have hml := Sha.mix_length hs hvl i
        refine wp_seq ?_
        refine reg ?_
        refine plain (y_lss rfl rfl rfl) rfl rfl rfl H197 ?_
        clear H197; intro a198 H198
        refine fin ?_
        refine then_n ?_
        refine wp_seq ?_
        refine cnd_d H198 rfl (fun hc199 => ?_) (fun hc199 => ?_) -- cond 4
        · skip
          refine wp_skip ?_
          refine then_n ?_
          refine wp_seq ?_
          refine wp_block ?_
          refine wp_seq ?_
          refine reg ?_
          refine plain (y_move rfl rfl) rfl rfl rfl H198 ?_
          clear H198; intro a200 H200
          refine plain (y_assign rfl rfl) rfl rfl rfl H200 ?_
          clear H200; intro a201 H201
          refine fin ?_
          refine then_n ?_
          refine treg 8 (by kernel_rfl) (by kernel_rfl) H201 ?_
          clear H201; intro w202 H202
          refine tplain (y_move rfl rfl) rfl rfl rfl H202 ?_
          clear H202; intro a203 H203
          refine tplain (y_ixA rfl Tryd.underlying61 z_size59 rfl rfl (by omega) (by omega) rfl) rfl rfl rfl H203 ?_
          clear H203; intro a204 H204
          refine tplain (y_loadB rfl z_agg59 rfl (by repeat (first | exact List.Mem.head _ | apply List.Mem.tail)) (by rw [show 0 + (i : Int).toNat * 1 = i by omega]; exact u32_get _ _ (by omega))) rfl rfl rfl H204 ?_
          clear H204; intro a205 H205
          refine tplain (y_move rfl rfl) rfl rfl rfl H205 ?_
          clear H205; intro a206 H206
          refine tplain (y_ixA rfl Tryd.underlying61 z_size59 rfl rfl (by omega) (by omega) rfl) rfl rfl rfl H206 ?_
          clear H206; intro a207 H207
          refine tplain (y_loadB rfl z_agg59 rfl (by repeat (first | exact List.Mem.head _ | apply List.Mem.tail)) (by rw [show 0 + (i : Int).toNat * 1 = i by omega]; exact u32_get _ _ (by omega))) rfl rfl rfl H207 ?_
          clear H207; intro a208 H208
          refine tplain (y_add32 rfl rfl rfl) rfl rfl rfl H208 ?_
          clear H208; intro a209 H209
          refine tplain (y_ixA rfl Tryd.underlying61 z_size59 rfl rfl (by omega) (by omega) rfl) rfl rfl rfl H209 ?_
          clear H209; intro a210 H210
          refine tfin ?_
          refine st_store1 rfl z_size59 rfl rfl rfl (by repeat (first | exact Upd.head _ _ _ | apply Upd.tail)) (by first | decide | (simp; omega)) rfl rfl H210 ?_
          clear H210; intro w211 H211
          refine fin ?_
          refine inb_n ?_
          refine then_n ?_
          refine reg ?_
          refine plain (y_add rfl rfl rfl (by first | exact w64 (by omega) (by omega) | rfl)) rfl rfl rfl H211 ?_
          clear H211; intro a212 H212
          refine plain (y_move rfl rfl) rfl rfl rfl H212 ?_
          clear H212; intro a213 H213
          refine fin ?_
          refine then_n ?_
          refine ⟨i + 1, by omega, by omega, H213.weak ⟨rfl, rfl, rfl, fi rfl (by omega), trivial⟩ (ib2 rfl (ib2 rfl (ib2 rfl (ib2 ?_ rfl))))⟩
          rw [u32_set, Sha.mix_get hs hvl (by omega), Sha.mix_succ hs hvl (by omega)]
        · skip
          refine wp_exit ?_
          refine then_x ?_
          refine then_x ?_
          refine inb_hit ?_
          refine then_n ?_
          refine wp_seq ?_
          refine reg ?_
          refine plain (y_loadAB rfl z_agg61 z_size61 rfl (by repeat (first | exact List.Mem.head _ | apply List.Mem.tail)) (take_all (by simp [hml])) (by simp [hml])) rfl rfl rfl H198 ?_
          clear H198; intro a214 H214
          refine st_store (vs := ((Sha.mix s (Sha.rounds s (Sha.sched b 64) 64) i).map u32)) rfl z_size61 rfl rfl rfl (one_u32 _) (by simp [hml]) (by repeat (first | exact Upd.head _ _ _ | apply Upd.tail)) (by decide) rfl rfl H214 ?_
          clear H214; intro w215 H215
          refine fin ?_
          refine then_n ?_
          refine wp_ret ?_
          -- return 1
          refine retc rfl H215 rfl z_agg61 z_size61 (by repeat (first | exact List.Mem.head _ | apply List.Mem.tail)) (by simp [spl, hml]) ?_
          have hi8 : i = 8 := by omega
          subst hi8
          refine ⟨_, [], rfl, ⟨?_, rfl⟩, H215.sep.sub (List.nil_sublist _)⟩
          rw [spl_all (by simp [hml]), Sha.mix_all hs hvl]
          rfl

end Go.Proofs.YtbadncpjbdfinaaDoor.D_Block
