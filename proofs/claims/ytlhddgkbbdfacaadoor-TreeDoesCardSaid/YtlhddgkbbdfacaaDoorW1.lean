/- Part of a proof about given Go functions: contracts of functions, or plain laws. -/
import Derived.Test.YtlhddgkbbdfacaaDoorS8
import Derived.Test.YtlhddgkbbdfacaaDoorS4
import Derived.Test.YtlhddgkbbdfacaaDoorS7
import Derived.Test.YtlhddgkbbdfacaaDoorS5
import Derived.Test.YtlhddgkbbdfacaaDoorProg
import Derived.Test.YtlhddgkbbdfacaaDoorS3
set_option linter.unusedVariables false
set_option linter.unusedSimpArgs false
namespace Go.Proofs.YtlhddgkbbdfacaaDoor.C_Block
open Go.Sx Go.RowKit

theorem z_zero91 : zeroL Tryd.prog 91 = some ([.int .u32 0, .int .u32 0, .int .u32 0, .int .u32 0, .int .u32 0, .int .u32 0, .int .u32 0, .int .u32 0]) := by kernel_rfl
theorem z_zero106 : zeroL Tryd.prog 106 = some (List.replicate 64 (.int .u32 0)) := by kernel_rfl
theorem z_size89 : sizeB Tryd.prog 89 = some 1 := by kernel_rfl
theorem z_agg89 : aggB Tryd.prog 89 = some false := by kernel_rfl
theorem z_call61 : callB Tryd.prog 61 = true := by kernel_rfl
theorem z_agg91 : aggB Tryd.prog 91 = some true := by kernel_rfl
theorem z_size91 : sizeB Tryd.prog 91 = some 8 := by kernel_rfl

set_option maxRecDepth 100000 in
set_option maxHeartbeats 1000000 in
theorem turn (x : BitVec 32) (n : Nat) (h0 : 0 < n) (h1 : n < 32) (w : World) : Calls Tryd.prog 61 #[u32 x, .int .i64 (n : Int)] w (Gives (u32 (Sha.rotr x n)) [] w) := by
 refine enterL (args := [u32 x, .int .i64 (n : Int)]) Tryd.func61 rfl rfl (l := []) (Sep.refl _) ?_
 intro a0 H0
 refine wp_seq ?_
 refine reg ?_
 refine plain (y_assign rfl rfl) rfl rfl rfl H0 ?_
 clear H0; intro a1 H1
 refine fin ?_
 refine then_n ?_
 refine wp_seq ?_
 refine qreg (by kernel_rfl) (by kernel_rfl) H1 ?_
 have F2 := H1.fr
 clear H1
 refine qplain (y_move rfl rfl) rfl rfl rfl F2 ?_
 clear F2; intro a3 H3
 refine qplain (y_move rfl rfl) rfl rfl rfl H3 ?_
 clear H3; intro a4 H4
 refine qplain (y_shr32 rfl rfl rfl (by omega)) rfl rfl rfl H4 ?_
 clear H4; intro a5 H5
 refine qplain (y_move rfl rfl) rfl rfl rfl H5 ?_
 clear H5; intro a6 H6
 refine qplain (y_move rfl rfl) rfl rfl rfl H6 ?_
 clear H6; intro a7 H7
 refine qplain (y_sub rfl rfl rfl (show IntKind.i64.wrap ((32 : Int) - (n : Int)) = ((32 - n : Nat) : Int) by rw [w64 (by omega) (by omega)]; omega)) rfl rfl rfl H7 ?_
 clear H7; intro a8 H8
 refine qplain (y_shl32 rfl rfl rfl (by omega)) rfl rfl rfl H8 ?_
 clear H8; intro a9 H9
 refine qplain (y_or32 rfl rfl rfl) rfl rfl rfl H9 ?_
 clear H9; intro a10 H10
 refine qplain (y_assign rfl rfl) rfl rfl rfl H10 ?_
 clear H10; intro a11 H11
 refine qfin H11 ?_
 clear H11; intro wx12 H12
 refine then_n ?_
 refine wp_ret ?_
 -- return 1
 refine ret1 rfl H12 rfl ?_
 exact ⟨_, [], rfl, ⟨rfl, rfl⟩, H12.sep.sub (List.nil_sublist _)⟩
set_option maxRecDepth 100000 in
set_option maxHeartbeats 4000000 in
theorem dblock (s : List (BitVec 32)) (hs : s.length = 8) (b : List UInt8) (hb : b.length = 64) {w : World} (hG : Glob 0 Sha.K w) : Calls Tryd.prog 50 #[.agg (s.map u32).toArray, str b] w (Gives (.agg ((Sha.block s b).map u32).toArray) [] w) := by
 refine enterL (args := [.agg (s.map u32).toArray, str b]) Tryd.func50 rfl rfl (l := []) (Sep.refl _) ?_
 intro a0 H0
 refine wp_seq ?_
 refine reg ?_
 refine st_box rfl rfl rfl rfl rfl rfl H0 ?_
 clear H0; intro b1 a1 wx1 H1
 refine st_alloc rfl z_zero91 rfl rfl rfl H1 ?_
 clear H1; intro b2 a2 wx2 H2
 refine fin ?_
 refine then_n ?_
 refine wp_seq ?_
 refine reg ?_
 refine st_alloc rfl z_zero106 rfl rfl rfl H2 ?_
 clear H2; intro b3 a3 wx3 H3
 refine fin ?_
 refine then_n ?_
 refine wp_seq ?_
 refine wp_seq ?_
 refine reg ?_
 refine plain (y_move rfl rfl) rfl rfl rfl H3 ?_
 clear H3; intro a4 H4
 refine fin ?_
 refine then_n ?_
 refine wp_block ?_
 refine loop (ι := Nat) (fun i => [(1, str b), (2, .pointer (some ⟨b1, 0, none⟩)), (4, .pointer (some ⟨b2, 0, none⟩)), (5, .pointer (some ⟨b3, 0, none⟩)), (17, .int .i64 (i : Int))]) (fun i => [It.blk b3 106 ((Sha.sched b i).map u32 ++ List.replicate (64 - i) (.int .u32 0)), It.blk b2 91 (List.replicate 8 (.int .u32 0)), It.blk b1 91 (s.map u32)]) (fun i => i ≤ 16) (fun i => 16 - i) (0) (Nat.zero_le _) (H4.weak ⟨rfl, rfl, rfl, rfl, rfl, trivial⟩ rfl) ?_
 clear H4; intro i a5 wx5 hok5 H5
 have hok := hok5
 refine wp_seq ?_
 refine reg ?_
 refine plain (y_lss rfl rfl rfl) rfl rfl rfl H5 ?_
 clear H5; intro a6 H6
 refine fin ?_
 refine then_n ?_
 refine wp_seq ?_
 refine cnd_d H6 rfl (fun hc7 => ?_) (fun hc7 => ?_) -- cond 1
 ·skip
  refine wp_skip ?_
  refine then_n ?_
  refine wp_seq ?_
  refine wp_block ?_
  refine wp_seq ?_
  refine reg ?_
  refine plain (y_move rfl rfl) rfl rfl rfl H6 ?_
  clear H6; intro a8 H8
  refine plain (y_assign rfl rfl) rfl rfl rfl H8 ?_
  clear H8; intro a9 H9
  refine fin ?_
  refine then_n ?_
  refine treg 31 (by kernel_rfl) (by kernel_rfl) H9 ?_
  clear H9; intro wx10 H10
  refine tplain (y_move rfl rfl) rfl rfl rfl H10 ?_
  clear H10; intro a11 H11
  refine tplain (y_move rfl rfl) rfl rfl rfl H11 ?_
  clear H11; intro a12 H12
  refine tplain (y_move rfl rfl) rfl rfl rfl H12 ?_
  clear H12; intro a13 H13
  refine tplain (y_mul rfl rfl rfl (by first | exact w64 (by omega) (by omega) | rfl)) rfl rfl rfl H13 ?_
  clear H13; intro a14 H14
  refine tplain (y_sidx rfl Tryd.underlying9 rfl rfl (by omega) (by omega)) rfl rfl rfl H14 ?_
  clear H14; intro a15 H15
  refine tplain (y_wide rfl Tryd.underlying5 Tryd.underlying89 rfl) rfl rfl rfl H15 ?_
  clear H15; intro a16 H16
  refine tplain (y_shl32 (k := 24) rfl rfl rfl (by omega)) rfl rfl rfl H16 ?_
  clear H16; intro a17 H17
  refine tplain (y_move rfl rfl) rfl rfl rfl H17 ?_
  clear H17; intro a18 H18
  refine tplain (y_move rfl rfl) rfl rfl rfl H18 ?_
  clear H18; intro a19 H19
  refine tplain (y_mul rfl rfl rfl (by first | exact w64 (by omega) (by omega) | rfl)) rfl rfl rfl H19 ?_
  clear H19; intro a20 H20
  refine tplain (y_add rfl rfl rfl (by first | exact w64 (by omega) (by omega) | rfl)) rfl rfl rfl H20 ?_
  clear H20; intro a21 H21
  refine tplain (y_sidx rfl Tryd.underlying9 rfl rfl (by omega) (by omega)) rfl rfl rfl H21 ?_
  clear H21; intro a22 H22
  refine tplain (y_wide rfl Tryd.underlying5 Tryd.underlying89 rfl) rfl rfl rfl H22 ?_
  clear H22; intro a23 H23
  refine tplain (y_shl32 (k := 16) rfl rfl rfl (by omega)) rfl rfl rfl H23 ?_
  clear H23; intro a24 H24
  refine tplain (y_or32 rfl rfl rfl) rfl rfl rfl H24 ?_
  clear H24; intro a25 H25
  refine tplain (y_move rfl rfl) rfl rfl rfl H25 ?_
  clear H25; intro a26 H26
  refine tplain (y_move rfl rfl) rfl rfl rfl H26 ?_
  clear H26; intro a27 H27
  refine tplain (y_mul rfl rfl rfl (by first | exact w64 (by omega) (by omega) | rfl)) rfl rfl rfl H27 ?_
  clear H27; intro a28 H28
  refine tplain (y_add rfl rfl rfl (by first | exact w64 (by omega) (by omega) | rfl)) rfl rfl rfl H28 ?_
  clear H28; intro a29 H29
  refine tplain (y_sidx rfl Tryd.underlying9 rfl rfl (by omega) (by omega)) rfl rfl rfl H29 ?_
  clear H29; intro a30 H30
  refine tplain (y_wide rfl Tryd.underlying5 Tryd.underlying89 rfl) rfl rfl rfl H30 ?_
  clear H30; intro a31 H31
  refine tplain (y_shl32 (k := 8) rfl rfl rfl (by omega)) rfl rfl rfl H31 ?_
  clear H31; intro a32 H32
  refine tplain (y_or32 rfl rfl rfl) rfl rfl rfl H32 ?_
  clear H32; intro a33 H33
  refine tplain (y_move rfl rfl) rfl rfl rfl H33 ?_
  clear H33; intro a34 H34
  refine tplain (y_move rfl rfl) rfl rfl rfl H34 ?_
  clear H34; intro a35 H35
  refine tplain (y_mul rfl rfl rfl (by first | exact w64 (by omega) (by omega) | rfl)) rfl rfl rfl H35 ?_
  clear H35; intro a36 H36
  refine tplain (y_add rfl rfl rfl (by first | exact w64 (by omega) (by omega) | rfl)) rfl rfl rfl H36 ?_
  clear H36; intro a37 H37
  refine tplain (y_sidx rfl Tryd.underlying9 rfl rfl (by omega) (by omega)) rfl rfl rfl H37 ?_
  clear H37; intro a38 H38
  refine tplain (y_wide rfl Tryd.underlying5 Tryd.underlying89 rfl) rfl rfl rfl H38 ?_
  clear H38; intro a39 H39
  refine tplain (y_or32 rfl rfl rfl) rfl rfl rfl H39 ?_
  clear H39; intro a40 H40
  refine tplain (y_ixA rfl Tryd.underlying106 z_size89 rfl rfl (by omega) (by omega) rfl) rfl rfl rfl H40 ?_
  clear H40; intro a41 H41
  refine tfin ?_
  refine st_store1 rfl z_size89 rfl rfl rfl UU (by first | decide | (simp; omega)) rfl rfl H41 ?_
  clear H41; intro wx42 H42
  refine fin ?_
  refine inb_n ?_
  refine then_n ?_
  refine reg ?_
  refine plain (y_add rfl rfl rfl (by first | exact w64 (by omega) (by omega) | rfl)) rfl rfl rfl H42 ?_
  clear H42; intro a43 H43
  refine plain (y_move rfl rfl) rfl rfl rfl H43 ?_
  clear H43; intro a44 H44
  refine fin ?_
  refine then_n ?_
  refine ⟨i + 1, by omega, by omega, H44.weak ⟨rfl, rfl, rfl, rfl, fi rfl (by omega), trivial⟩ (ib2 ?_ rfl)⟩
  have e0 : (4 * (i : Int)).toNat = 4 * i := by omega
  have e1 : (4 * (i : Int) + 1).toNat = 4 * i + 1 := by omega
  have e2 : (4 * (i : Int) + 2).toNat = 4 * i + 2 := by omega
  have e3 : (4 * (i : Int) + 3).toNat = 4 * i + 3 := by omega
  rw [e0, e1, e2, e3, Sha.sched_wd b (by omega)]
  exact grow_set (Sha.sched b i) _ i 64 _ (Sha.sched_length b i) (by omega)
 ·skip
  refine wp_exit ?_
  refine then_x ?_
  refine then_x ?_
  refine inb_hit ?_
  refine then_n ?_
  refine wp_seq ?_
  refine wp_seq ?_
  refine reg ?_
  refine plain (y_assign rfl rfl) rfl rfl rfl H6 ?_
  clear H6; intro a45 H45
  refine fin ?_
  refine then_n ?_
  refine wp_block ?_
  refine loop (ι := Nat) (fun t => [(2, .pointer (some ⟨b1, 0, none⟩)), (4, .pointer (some ⟨b2, 0, none⟩)), (5, .pointer (some ⟨b3, 0, none⟩)), (7, .int .i64 (t : Int))]) (fun t => [It.blk b3 106 ((Sha.sched b t).map u32 ++ List.replicate (64 - t) (.int .u32 0)), It.blk b2 91 (List.replicate 8 (.int .u32 0)), It.blk b1 91 (s.map u32)]) (fun t => 16 ≤ t ∧ t ≤ 64) (fun t => 64 - t) (16) (by decide) (H45.weak ⟨rfl, rfl, rfl, rfl, trivial⟩ (by rw [show i = 16 by omega])) ?_
  clear H45; intro t a46 wx46 hok46 H46
  have hok2 := hok46
  have hsl := Sha.sched_length b t
  refine wp_seq ?_
  refine wp_seq ?_
  refine reg ?_
  refine plain (y_move rfl rfl) rfl rfl rfl H46 ?_
  clear H46; intro a47 H47
  refine plain (y_lss rfl rfl rfl) rfl rfl rfl H47 ?_
  clear H47; intro a48 H48
  refine fin ?_
  refine then_n ?_
  refine cnd_d H48 rfl (fun hc49 => ?_) (fun hc49 => ?_) -- cond 2
  ·skip
   refine wp_skip ?_
   refine then_n ?_
   refine wp_seq ?_
   refine wp_block ?_
   refine wp_seq ?_
   refine qreg (by kernel_rfl) (by kernel_rfl) H48 ?_
   have F50 := H48.fr
   clear H48
   refine qplain (y_move rfl rfl) rfl rfl rfl F50 ?_
   clear F50; intro a51 H51
   refine qplain (y_sub rfl rfl rfl (by first | exact w64 (by omega) (by omega) | rfl)) rfl rfl rfl H51 ?_
   clear H51; intro a52 H52
   refine qplain (y_ixA rfl Tryd.underlying106 z_size89 rfl rfl (by omega) (by omega) rfl) rfl rfl rfl H52 ?_
   clear H52; intro a53 H53
   refine qplain (y_loadB rfl z_agg89 rfl MM (by rw [show 0 + ((t : Int) - 15).toNat * 1 = t - 15 by omega]; exact grow_get _ _ _ (by omega))) rfl rfl rfl H53 ?_
   clear H53; intro a54 H54
   refine qplain (y_move rfl rfl) rfl rfl rfl H54 ?_
   clear H54; intro a55 H55
   refine qplain (y_sub rfl rfl rfl (by first | exact w64 (by omega) (by omega) | rfl)) rfl rfl rfl H55 ?_
   clear H55; intro a56 H56
   refine qplain (y_ixA rfl Tryd.underlying106 z_size89 rfl rfl (by omega) (by omega) rfl) rfl rfl rfl H56 ?_
   clear H56; intro a57 H57
   refine qplain (y_loadB rfl z_agg89 rfl MM (by rw [show 0 + ((t : Int) - 2).toNat * 1 = t - 2 by omega]; exact grow_get _ _ _ (by omega))) rfl rfl rfl H57 ?_
   clear H57; intro a58 H58
   refine qplain (y_assign rfl rfl) rfl rfl rfl H58 ?_
   clear H58; intro a59 H59
   refine qplain (y_assign rfl rfl) rfl rfl rfl H59 ?_
   clear H59; intro a60 H60
   refine qfin H60 ?_
   clear H60; intro wx61 H61
   refine then_n ?_
   refine hreg [It.pre b3 106 64 ((Sha.sched b t).map u32)] (fun _ h => ((Sep.toPre (b := b3) (n := 64) (cs := (Sha.sched b t).map u32) h UU ⟨_, rfl⟩ (by simp [hsl]; omega)).sub (by first | exact S0 | exact S1 | repeat (first | exact S1 | exact S0 | apply S2 | apply S3)))) (by kernel_rfl) H61 ?_
   clear H61; intro wx62 H62
   refine htake 0 rfl (by kernel_rfl) (y_move rfl rfl) rfl rfl rfl (fun _ h => ((Sep.toPre (b := b3) (n := 64) (cs := (Sha.sched b t).map u32) h UU ⟨_, rfl⟩ (by simp [hsl]; omega)).sub (by first | exact S0 | exact S1 | repeat (first | exact S1 | exact S0 | apply S2 | apply S3)))) H62 ?_
   clear H62; intro a63 H63
   refine htake 1 rfl (by kernel_rfl) (y_move rfl rfl) rfl rfl rfl (fun _ h => ((Sep.toPre (b := b3) (n := 64) (cs := (Sha.sched b t).map u32) h UU ⟨_, rfl⟩ (by simp [hsl]; omega)).sub (by first | exact S0 | exact S1 | repeat (first | exact S1 | exact S0 | apply S2 | apply S3)))) H63 ?_
   clear H63; intro a64 H64
   refine htake 2 rfl (by kernel_rfl) (y_sub rfl rfl rfl (by first | exact w64 (by omega) (by omega) | rfl)) rfl rfl rfl (fun _ h => ((Sep.toPre (b := b3) (n := 64) (cs := (Sha.sched b t).map u32) h UU ⟨_, rfl⟩ (by simp [hsl]; omega)).sub (by first | exact S0 | exact S1 | repeat (first | exact S1 | exact S0 | apply S2 | apply S3)))) H64 ?_
   clear H64; intro a65 H65
   refine htake 3 rfl (by kernel_rfl) (y_ixA rfl Tryd.underlying106 z_size89 rfl rfl (by omega) (by omega) rfl) rfl rfl rfl (fun _ h => ((Sep.toPre (b := b3) (n := 64) (cs := (Sha.sched b t).map u32) h UU ⟨_, rfl⟩ (by simp [hsl]; omega)).sub (by first | exact S0 | exact S1 | repeat (first | exact S1 | exact S0 | apply S2 | apply S3)))) H65 ?_
   clear H65; intro a66 H66
   refine htake 4 rfl (by kernel_rfl) (y_loadP rfl z_agg89 rfl MM (by rw [show 0 + ((t : Int) - 16).toNat * 1 = t - 16 by omega]; exact u32_get _ _ (by omega))) rfl rfl rfl (fun _ h => ((Sep.toPre (b := b3) (n := 64) (cs := (Sha.sched b t).map u32) h UU ⟨_, rfl⟩ (by simp [hsl]; omega)).sub (by first | exact S0 | exact S1 | repeat (first | exact S1 | exact S0 | apply S2 | apply S3)))) H66 ?_
   clear H66; intro a67 H67
   refine htake 5 rfl (by kernel_rfl) (y_move rfl rfl) rfl rfl rfl (fun _ h => ((Sep.toPre (b := b3) (n := 64) (cs := (Sha.sched b t).map u32) h UU ⟨_, rfl⟩ (by simp [hsl]; omega)).sub (by first | exact S0 | exact S1 | repeat (first | exact S1 | exact S0 | apply S2 | apply S3)))) H67 ?_
   clear H67; intro a68 H68
   refine htake 6 rfl (by kernel_rfl) (y_sub rfl rfl rfl (by first | exact w64 (by omega) (by omega) | rfl)) rfl rfl rfl (fun _ h => ((Sep.toPre (b := b3) (n := 64) (cs := (Sha.sched b t).map u32) h UU ⟨_, rfl⟩ (by simp [hsl]; omega)).sub (by first | exact S0 | exact S1 | repeat (first | exact S1 | exact S0 | apply S2 | apply S3)))) H68 ?_
   clear H68; intro a69 H69
   refine htake 7 rfl (by kernel_rfl) (y_ixA rfl Tryd.underlying106 z_size89 rfl rfl (by omega) (by omega) rfl) rfl rfl rfl (fun _ h => ((Sep.toPre (b := b3) (n := 64) (cs := (Sha.sched b t).map u32) h UU ⟨_, rfl⟩ (by simp [hsl]; omega)).sub (by first | exact S0 | exact S1 | repeat (first | exact S1 | exact S0 | apply S2 | apply S3)))) H69 ?_
   clear H69; intro a70 H70
   refine htake 8 rfl (by kernel_rfl) (y_loadP rfl z_agg89 rfl MM (by rw [show 0 + ((t : Int) - 7).toNat * 1 = t - 7 by omega]; exact u32_get _ _ (by omega))) rfl rfl rfl (fun _ h => ((Sep.toPre (b := b3) (n := 64) (cs := (Sha.sched b t).map u32) h UU ⟨_, rfl⟩ (by simp [hsl]; omega)).sub (by first | exact S0 | exact S1 | repeat (first | exact S1 | exact S0 | apply S2 | apply S3)))) H70 ?_
   clear H70; intro a71 H71
   refine htake 9 rfl (by kernel_rfl) (y_add32 rfl rfl rfl) rfl rfl rfl (fun _ h => ((Sep.toPre (b := b3) (n := 64) (cs := (Sha.sched b t).map u32) h UU ⟨_, rfl⟩ (by simp [hsl]; omega)).sub (by first | exact S0 | exact S1 | repeat (first | exact S1 | exact S0 | apply S2 | apply S3)))) H71 ?_
   clear H71; intro a72 H72
   refine htake 10 rfl (by kernel_rfl) (y_move rfl rfl) rfl rfl rfl (fun _ h => ((Sep.toPre (b := b3) (n := 64) (cs := (Sha.sched b t).map u32) h UU ⟨_, rfl⟩ (by simp [hsl]; omega)).sub (by first | exact S0 | exact S1 | repeat (first | exact S1 | exact S0 | apply S2 | apply S3)))) H72 ?_
   clear H72; intro a73 H73
   refine htake 12 rfl (by kernel_rfl) (y_move rfl rfl) rfl rfl rfl (fun _ h => ((Sep.toPre (b := b3) (n := 64) (cs := (Sha.sched b t).map u32) h UU ⟨_, rfl⟩ (by simp [hsl]; omega)).sub (by first | exact S0 | exact S1 | repeat (first | exact S1 | exact S0 | apply S2 | apply S3)))) H73 ?_
   clear H73; intro a74 H74
   refine htake 15 rfl (by kernel_rfl) (y_move rfl rfl) rfl rfl rfl (fun _ h => ((Sep.toPre (b := b3) (n := 64) (cs := (Sha.sched b t).map u32) h UU ⟨_, rfl⟩ (by simp [hsl]; omega)).sub (by first | exact S0 | exact S1 | repeat (first | exact S1 | exact S0 | apply S2 | apply S3)))) H74 ?_
   clear H74; intro a75 H75
   refine htake 16 rfl (by kernel_rfl) (y_shr32 (k := 3) rfl rfl rfl (by omega)) rfl rfl rfl (fun _ h => ((Sep.toPre (b := b3) (n := 64) (cs := (Sha.sched b t).map u32) h UU ⟨_, rfl⟩ (by simp [hsl]; omega)).sub (by first | exact S0 | exact S1 | repeat (first | exact S1 | exact S0 | apply S2 | apply S3)))) H75 ?_
   clear H75; intro a76 H76
   refine htake 19 rfl (by kernel_rfl) (y_move rfl rfl) rfl rfl rfl (fun _ h => ((Sep.toPre (b := b3) (n := 64) (cs := (Sha.sched b t).map u32) h UU ⟨_, rfl⟩ (by simp [hsl]; omega)).sub (by first | exact S0 | exact S1 | repeat (first | exact S1 | exact S0 | apply S2 | apply S3)))) H76 ?_
   clear H76; intro a77 H77
   refine htake 21 rfl (by kernel_rfl) (y_move rfl rfl) rfl rfl rfl (fun _ h => ((Sep.toPre (b := b3) (n := 64) (cs := (Sha.sched b t).map u32) h UU ⟨_, rfl⟩ (by simp [hsl]; omega)).sub (by first | exact S0 | exact S1 | repeat (first | exact S1 | exact S0 | apply S2 | apply S3)))) H77 ?_
   clear H77; intro a78 H78
   refine htake 24 rfl (by kernel_rfl) (y_move rfl rfl) rfl rfl rfl (fun _ h => ((Sep.toPre (b := b3) (n := 64) (cs := (Sha.sched b t).map u32) h UU ⟨_, rfl⟩ (by simp [hsl]; omega)).sub (by first | exact S0 | exact S1 | repeat (first | exact S1 | exact S0 | apply S2 | apply S3)))) H78 ?_
   clear H78; intro a79 H79
   refine htake 25 rfl (by kernel_rfl) (y_shr32 (k := 10) rfl rfl rfl (by omega)) rfl rfl rfl (fun _ h => ((Sep.toPre (b := b3) (n := 64) (cs := (Sha.sched b t).map u32) h UU ⟨_, rfl⟩ (by simp [hsl]; omega)).sub (by first | exact S0 | exact S1 | repeat (first | exact S1 | exact S0 | apply S2 | apply S3)))) H79 ?_
   clear H79; intro a80 H80
   refine hgo 11 rfl (by kernel_rfl) ?_
   refine st_callg rfl z_call61 rfl rfl rfl rfl H80 (turn _ 7 (by decide) (by decide) _) ?_
   clear H80; intro a81 wx81 H81
   refine hfin ((Sep.toPre (b := b3) (n := 64) (cs := (Sha.sched b t).map u32) H81.sep UU ⟨_, rfl⟩ (by simp [hsl]; omega)).sub (by first | exact S0 | exact S1 | repeat (first | exact S1 | exact S0 | apply S2 | apply S3))) ?_
   refine hgo 13 rfl (by kernel_rfl) ?_
   refine st_callg rfl z_call61 rfl rfl rfl rfl H81 (turn _ 18 (by decide) (by decide) _) ?_
   clear H81; intro a82 wx82 H82
   refine hfin ((Sep.toPre (b := b3) (n := 64) (cs := (Sha.sched b t).map u32) H82.sep UU ⟨_, rfl⟩ (by simp [hsl]; omega)).sub (by first | exact S0 | exact S1 | repeat (first | exact S1 | exact S0 | apply S2 | apply S3))) ?_
   refine htake 14 rfl (by kernel_rfl) (y_xor32 rfl rfl rfl) rfl rfl rfl (fun _ h => ((Sep.toPre (b := b3) (n := 64) (cs := (Sha.sched b t).map u32) h UU ⟨_, rfl⟩ (by simp [hsl]; omega)).sub (by first | exact S0 | exact S1 | repeat (first | exact S1 | exact S0 | apply S2 | apply S3)))) H82 ?_
   clear H82; intro a83 H83
   refine htake 17 rfl (by kernel_rfl) (y_xor32 rfl rfl rfl) rfl rfl rfl (fun _ h => ((Sep.toPre (b := b3) (n := 64) (cs := (Sha.sched b t).map u32) h UU ⟨_, rfl⟩ (by simp [hsl]; omega)).sub (by first | exact S0 | exact S1 | repeat (first | exact S1 | exact S0 | apply S2 | apply S3)))) H83 ?_
   clear H83; intro a84 H84
   refine htake 18 rfl (by kernel_rfl) (y_add32 rfl rfl rfl) rfl rfl rfl (fun _ h => ((Sep.toPre (b := b3) (n := 64) (cs := (Sha.sched b t).map u32) h UU ⟨_, rfl⟩ (by simp [hsl]; omega)).sub (by first | exact S0 | exact S1 | repeat (first | exact S1 | exact S0 | apply S2 | apply S3)))) H84 ?_
   clear H84; intro a85 H85
   refine hgo 20 rfl (by kernel_rfl) ?_
   refine st_callg rfl z_call61 rfl rfl rfl rfl H85 (turn _ 17 (by decide) (by decide) _) ?_
   clear H85; intro a86 wx86 H86
   refine hfin ((Sep.toPre (b := b3) (n := 64) (cs := (Sha.sched b t).map u32) H86.sep UU ⟨_, rfl⟩ (by simp [hsl]; omega)).sub (by first | exact S0 | exact S1 | repeat (first | exact S1 | exact S0 | apply S2 | apply S3))) ?_
   refine hgo 22 rfl (by kernel_rfl) ?_
   refine st_callg rfl z_call61 rfl rfl rfl rfl H86 (turn _ 19 (by decide) (by decide) _) ?_
   clear H86; intro a87 wx87 H87
   refine hfin ((Sep.toPre (b := b3) (n := 64) (cs := (Sha.sched b t).map u32) H87.sep UU ⟨_, rfl⟩ (by simp [hsl]; omega)).sub (by first | exact S0 | exact S1 | repeat (first | exact S1 | exact S0 | apply S2 | apply S3))) ?_
   refine htake 23 rfl (by kernel_rfl) (y_xor32 rfl rfl rfl) rfl rfl rfl (fun _ h => ((Sep.toPre (b := b3) (n := 64) (cs := (Sha.sched b t).map u32) h UU ⟨_, rfl⟩ (by simp [hsl]; omega)).sub (by first | exact S0 | exact S1 | repeat (first | exact S1 | exact S0 | apply S2 | apply S3)))) H87 ?_
   clear H87; intro a88 H88
   refine htake 26 rfl (by kernel_rfl) (y_xor32 rfl rfl rfl) rfl rfl rfl (fun _ h => ((Sep.toPre (b := b3) (n := 64) (cs := (Sha.sched b t).map u32) h UU ⟨_, rfl⟩ (by simp [hsl]; omega)).sub (by first | exact S0 | exact S1 | repeat (first | exact S1 | exact S0 | apply S2 | apply S3)))) H88 ?_
   clear H88; intro a89 H89
   refine htake 27 rfl (by kernel_rfl) (y_add32 rfl rfl rfl) rfl rfl rfl (fun _ h => ((Sep.toPre (b := b3) (n := 64) (cs := (Sha.sched b t).map u32) h UU ⟨_, rfl⟩ (by simp [hsl]; omega)).sub (by first | exact S0 | exact S1 | repeat (first | exact S1 | exact S0 | apply S2 | apply S3)))) H89 ?_
   clear H89; intro a90 H90
   refine htake 28 rfl (by kernel_rfl) (y_ixA rfl Tryd.underlying106 z_size89 rfl rfl (by omega) (by omega) rfl) rfl rfl rfl (fun _ h => ((Sep.toPre (b := b3) (n := 64) (cs := (Sha.sched b t).map u32) h UU ⟨_, rfl⟩ (by simp [hsl]; omega)).sub (by first | exact S0 | exact S1 | repeat (first | exact S1 | exact S0 | apply S2 | apply S3)))) H90 ?_
   clear H90; intro a91 H91
   refine hgo 29 rfl (by kernel_rfl) ?_
   refine st_store1 rfl z_size89 rfl rfl rfl UU (by first | decide | (simp; omega)) rfl rfl H91 ?_
   clear H91; intro wx92 H92
   refine hfin ((Sep.toPre (b := b3) (n := 64) (cs := (Sha.sched b t).map u32) H92.sep UU ⟨_, pre_set _ _ t _ hsl⟩ (by simp [hsl]; omega)).sub (by first | exact S0 | exact S1 | repeat (first | exact S1 | exact S0 | apply S2 | apply S3))) ?_
   refine hdone (by kernel_rfl) ?_
   refine inb_n ?_
   refine then_n ?_
   refine reg ?_
   refine plain (y_move rfl rfl) rfl rfl rfl H92 ?_
   clear H92; intro a93 H93
   refine plain (y_add rfl rfl rfl (by first | exact w64 (by omega) (by omega) | rfl)) rfl rfl rfl H93 ?_
   clear H93; intro a94 H94
   refine plain (y_assign rfl rfl) rfl rfl rfl H94 ?_
   clear H94; intro a95 H95
   refine fin ?_
   refine then_n ?_
   refine ⟨t + 1, by omega, by omega, H95.weak ⟨rfl, rfl, rfl, fi rfl (by omega), trivial⟩ (ib2 ?_ rfl)⟩
   rw [Sha.sched_next b (by omega)]
   exact grow_set (Sha.sched b t) _ t 64 _ hsl (by omega)
  ·skip
   refine wp_exit ?_
   refine then_x ?_
   refine then_x ?_
   refine inb_hit ?_
   refine then_n ?_
   refine wp_seq ?_
   refine reg ?_
   refine plain (y_loadAB rfl z_agg91 z_size91 rfl MM (take_all (by simp [hs])) (by simp [hs])) rfl rfl rfl H48 ?_
   clear H48; intro a96 H96
   refine st_alloc rfl z_zero91 rfl rfl rfl H96 ?_
   clear H96; intro b97 a97 wx97 H97
   refine st_store (vs := (s.map u32)) rfl z_size91 rfl rfl rfl (one_u32 _) (by simp [hs]) UU (by decide) rfl rfl H97 ?_
   clear H97; intro wx98 H98
   refine fin ?_
   refine then_n ?_
   refine wp_seq ?_
   refine wp_seq ?_
   refine reg ?_
   refine plain (y_move rfl rfl) rfl rfl rfl H98 ?_
   clear H98; intro a99 H99
   refine fin ?_
   refine then_n ?_
   refine wp_block ?_
   have ht64 : t = 64 := by omega
   subst ht64
   refine loop (ι := Nat) (fun t => [(2, .pointer (some ⟨b1, 0, none⟩)), (4, .pointer (some ⟨b2, 0, none⟩)), (5, .pointer (some ⟨b3, 0, none⟩)), (10, .pointer (some ⟨b97, 0, none⟩)), (94, .int .i64 (t : Int))]) (fun t => [It.blk b97 91 ((Sha.rounds s (Sha.sched b 64) t).map u32), It.blk b3 106 ((Sha.sched b 64).map u32 ++ List.replicate (64 - 64) (.int .u32 0)), It.blk b2 91 (List.replicate 8 (.int .u32 0)), It.blk b1 91 (s.map u32)]) (fun t => t ≤ 64) (fun t => 64 - t) (0) (Nat.zero_le _) (H99.weak ⟨rfl, rfl, rfl, rfl, rfl, trivial⟩ (ib2 (spl_all (by simp [hs])) rfl)) ?_
   clear H99; intro t a100 wx100 hok100 H100
   have hok3 := hok100
   have hvl := Sha.rounds_length (ws := Sha.sched b 64) hs t
   have hwl := Sha.sched_length b 64
   refine wp_seq ?_
   refine reg ?_
   refine plain (y_lss rfl rfl rfl) rfl rfl rfl H100 ?_
   clear H100; intro a101 H101
   refine fin ?_
   refine then_n ?_
   refine wp_seq ?_
   refine cnd_d H101 rfl (fun hc102 => ?_) (fun hc102 => ?_) -- cond 3
   ·skip
    refine wp_skip ?_
    refine then_n ?_
    refine wp_seq ?_
    refine wp_block ?_
    refine wp_seq ?_
    refine reg ?_
    refine plain (y_move rfl rfl) rfl rfl rfl H101 ?_
    clear H101; intro a103 H103
    refine plain (y_assign rfl rfl) rfl rfl rfl H103 ?_
    clear H103; intro a104 H104
    refine fin ?_
    refine then_n ?_
    refine wp_seq ?_
    refine qreg (by kernel_rfl) (by kernel_rfl) H104 ?_
    have F105 := H104.fr
    clear H104
    refine qplain (y_ixA rfl Tryd.underlying91 z_size89 rfl rfl (by omega) (by omega) rfl) rfl rfl rfl F105 ?_
    clear F105; intro a106 H106
    refine qplain (y_loadB rfl z_agg89 rfl MM (u32_get _ 0 (by omega))) rfl rfl rfl H106 ?_
    clear H106; intro a107 H107
    refine qplain (y_ixA rfl Tryd.underlying91 z_size89 rfl rfl (by omega) (by omega) rfl) rfl rfl rfl H107 ?_
    clear H107; intro a108 H108
    refine qplain (y_loadB rfl z_agg89 rfl MM (u32_get _ 4 (by omega))) rfl rfl rfl H108 ?_
    clear H108; intro a109 H109
    refine qplain (y_assign rfl rfl) rfl rfl rfl H109 ?_
    clear H109; intro a110 H110
    refine qplain (y_assign rfl rfl) rfl rfl rfl H110 ?_
    clear H110; intro a111 H111
    refine qfin H111 ?_
    clear H111; intro wx112 H112
    refine then_n ?_
    refine wp_seq ?_
    refine qreg (by kernel_rfl) (by kernel_rfl) H112 ?_
    have F113 := H112.fr
    clear H112
    refine qplain (y_ixA rfl Tryd.underlying91 z_size89 rfl rfl (by omega) (by omega) rfl) rfl rfl rfl F113 ?_
    clear F113; intro a114 H114
    refine qplain (y_loadB rfl z_agg89 rfl MM (u32_get _ 7 (by omega))) rfl rfl rfl H114 ?_
    clear H114; intro a115 H115
    refine qplain (y_move rfl rfl) rfl rfl rfl H115 ?_
    clear H115; intro a116 H116
    refine qcallg rfl z_call61 rfl rfl rfl rfl H116 (fun w hs => (turn _ 6 (by decide) (by decide) _)) ?_
    clear H116; intro a117 H117
    refine qplain (y_move rfl rfl) rfl rfl rfl H117 ?_
    clear H117; intro a118 H118
    refine qcallg rfl z_call61 rfl rfl rfl rfl H118 (fun w hs => (turn _ 11 (by decide) (by decide) _)) ?_
    clear H118; intro a119 H119
    refine qplain (y_xor32 rfl rfl rfl) rfl rfl rfl H119 ?_
    clear H119; intro a120 H120
    refine qplain (y_move rfl rfl) rfl rfl rfl H120 ?_
    clear H120; intro a121 H121
    refine qcallg rfl z_call61 rfl rfl rfl rfl H121 (fun w hs => (turn _ 25 (by decide) (by decide) _)) ?_
    clear H121; intro a122 H122
    refine qplain (y_xor32 rfl rfl rfl) rfl rfl rfl H122 ?_
    clear H122; intro a123 H123
    refine qplain (y_add32 rfl rfl rfl) rfl rfl rfl H123 ?_
    clear H123; intro a124 H124
    refine qplain (y_move rfl rfl) rfl rfl rfl H124 ?_
    clear H124; intro a125 H125
    refine qplain (y_ixA rfl Tryd.underlying91 z_size89 rfl rfl (by omega) (by omega) rfl) rfl rfl rfl H125 ?_
    clear H125; intro a126 H126
    refine qplain (y_loadB rfl z_agg89 rfl MM (u32_get _ 5 (by omega))) rfl rfl rfl H126 ?_
    clear H126; intro a127 H127
    refine qplain (y_and32 rfl rfl rfl) rfl rfl rfl H127 ?_
    clear H127; intro a128 H128
    refine qplain (y_move rfl rfl) rfl rfl rfl H128 ?_
    clear H128; intro a129 H129
    refine qplain (y_not32 rfl rfl) rfl rfl rfl H129 ?_
    clear H129; intro a130 H130
    refine qplain (y_ixA rfl Tryd.underlying91 z_size89 rfl rfl (by omega) (by omega) rfl) rfl rfl rfl H130 ?_
    clear H130; intro a131 H131
    refine qplain (y_loadB rfl z_agg89 rfl MM (u32_get _ 6 (by omega))) rfl rfl rfl H131 ?_
    clear H131; intro a132 H132
    refine qplain (y_and32 rfl rfl rfl) rfl rfl rfl H132 ?_
    clear H132; intro a133 H133
    refine qplain (y_xor32 rfl rfl rfl) rfl rfl rfl H133 ?_
    clear H133; intro a134 H134
    refine qplain (y_add32 rfl rfl rfl) rfl rfl rfl H134 ?_
    clear H134; intro a135 H135
    refine qplain (y_move rfl rfl) rfl rfl rfl H135 ?_
    clear H135; intro a136 H136
    refine qplain (y_ixA rfl Tryd.underlying106 z_size89 rfl rfl (by omega) (by omega) rfl) rfl rfl rfl H136 ?_
    clear H136; intro a137 H137
    refine qplain (y_loadO rfl z_agg89 rfl (hG.get (by show t < 64; omega)) (by simp)) rfl rfl rfl H137 ?_
    clear H137; intro a138 H138
    refine qplain (y_add32 rfl rfl rfl) rfl rfl rfl H138 ?_
    clear H138; intro a139 H139
    refine qplain (y_move rfl rfl) rfl rfl rfl H139 ?_
    clear H139; intro a140 H140
    refine qplain (y_ixA rfl Tryd.underlying106 z_size89 rfl rfl (by omega) (by omega) rfl) rfl rfl rfl H140 ?_
    clear H140; intro a141 H141
    refine qplain (y_loadB rfl z_agg89 rfl MM (by rw [show 0 + (t : Int).toNat * 1 = t by omega]; exact grow_get _ _ _ (by omega))) rfl rfl rfl H141 ?_
    clear H141; intro a142 H142
    refine qplain (y_add32 rfl rfl rfl) rfl rfl rfl H142 ?_
    clear H142; intro a143 H143
    refine qplain (y_assign rfl rfl) rfl rfl rfl H143 ?_
    clear H143; intro a144 H144
    refine qfin H144 ?_
    clear H144; intro wx145 H145
    refine then_n ?_
    refine wp_seq ?_
    refine qreg (by kernel_rfl) (by kernel_rfl) H145 ?_
    have F146 := H145.fr
    clear H145
    refine qplain (y_move rfl rfl) rfl rfl rfl F146 ?_
    clear F146; intro a147 H147
    refine qcallg rfl z_call61 rfl rfl rfl rfl H147 (fun w hs => (turn _ 2 (by decide) (by decide) _)) ?_
    clear H147; intro a148 H148
    refine qplain (y_move rfl rfl) rfl rfl rfl H148 ?_
    clear H148; intro a149 H149
    refine qcallg rfl z_call61 rfl rfl rfl rfl H149 (fun w hs => (turn _ 13 (by decide) (by decide) _)) ?_
    clear H149; intro a150 H150
    refine qplain (y_xor32 rfl rfl rfl) rfl rfl rfl H150 ?_
    clear H150; intro a151 H151
    refine qplain (y_move rfl rfl) rfl rfl rfl H151 ?_
    clear H151; intro a152 H152
    refine qcallg rfl z_call61 rfl rfl rfl rfl H152 (fun w hs => (turn _ 22 (by decide) (by decide) _)) ?_
    clear H152; intro a153 H153
    refine qplain (y_xor32 rfl rfl rfl) rfl rfl rfl H153 ?_
    clear H153; intro a154 H154
    refine qplain (y_move rfl rfl) rfl rfl rfl H154 ?_
    clear H154; intro a155 H155
    refine qplain (y_ixA rfl Tryd.underlying91 z_size89 rfl rfl (by omega) (by omega) rfl) rfl rfl rfl H155 ?_
    clear H155; intro a156 H156
    refine qplain (y_loadB rfl z_agg89 rfl MM (u32_get _ 1 (by omega))) rfl rfl rfl H156 ?_
    clear H156; intro a157 H157
    refine qplain (y_and32 rfl rfl rfl) rfl rfl rfl H157 ?_
    clear H157; intro a158 H158
    refine qplain (y_move rfl rfl) rfl rfl rfl H158 ?_
    clear H158; intro a159 H159
    refine qplain (y_ixA rfl Tryd.underlying91 z_size89 rfl rfl (by omega) (by omega) rfl) rfl rfl rfl H159 ?_
    clear H159; intro a160 H160
    refine qplain (y_loadB rfl z_agg89 rfl MM (u32_get _ 2 (by omega))) rfl rfl rfl H160 ?_
    clear H160; intro a161 H161
    refine qplain (y_and32 rfl rfl rfl) rfl rfl rfl H161 ?_
    clear H161; intro a162 H162
    refine qplain (y_xor32 rfl rfl rfl) rfl rfl rfl H162 ?_
    clear H162; intro a163 H163
    refine qplain (y_ixA rfl Tryd.underlying91 z_size89 rfl rfl (by omega) (by omega) rfl) rfl rfl rfl H163 ?_
    clear H163; intro a164 H164
    refine qplain (y_loadB rfl z_agg89 rfl MM (u32_get _ 1 (by omega))) rfl rfl rfl H164 ?_
    clear H164; intro a165 H165
    refine qplain (y_ixA rfl Tryd.underlying91 z_size89 rfl rfl (by omega) (by omega) rfl) rfl rfl rfl H165 ?_
    clear H165; intro a166 H166
    refine qplain (y_loadB rfl z_agg89 rfl MM (u32_get _ 2 (by omega))) rfl rfl rfl H166 ?_
    clear H166; intro a167 H167
    refine qplain (y_and32 rfl rfl rfl) rfl rfl rfl H167 ?_
    clear H167; intro a168 H168
    refine qplain (y_xor32 rfl rfl rfl) rfl rfl rfl H168 ?_
    clear H168; intro a169 H169
    refine qplain (y_add32 rfl rfl rfl) rfl rfl rfl H169 ?_
    clear H169; intro a170 H170
    refine qplain (y_assign rfl rfl) rfl rfl rfl H170 ?_
    clear H170; intro a171 H171
    refine qfin H171 ?_
    clear H171; intro wx172 H172
    refine then_n ?_
    refine reg ?_
    refine plain (y_move rfl rfl) rfl rfl rfl H172 ?_
    clear H172; intro a173 H173
    refine plain (y_move rfl rfl) rfl rfl rfl H173 ?_
    clear H173; intro a174 H174
    refine plain (y_add32 rfl rfl rfl) rfl rfl rfl H174 ?_
    clear H174; intro a175 H175
    refine plain (y_ixA rfl Tryd.underlying91 z_size89 rfl rfl (by omega) (by omega) rfl) rfl rfl rfl H175 ?_
    clear H175; intro a176 H176
    refine plain (y_loadB rfl z_agg89 rfl MM (u32_get _ 0 (by omega))) rfl rfl rfl H176 ?_
    clear H176; intro a177 H177
    refine plain (y_ixA rfl Tryd.underlying91 z_size89 rfl rfl (by omega) (by omega) rfl) rfl rfl rfl H177 ?_
    clear H177; intro a178 H178
    refine plain (y_loadB rfl z_agg89 rfl MM (u32_get _ 1 (by omega))) rfl rfl rfl H178 ?_
    clear H178; intro a179 H179
    refine plain (y_ixA rfl Tryd.underlying91 z_size89 rfl rfl (by omega) (by omega) rfl) rfl rfl rfl H179 ?_
    clear H179; intro a180 H180
    refine plain (y_loadB rfl z_agg89 rfl MM (u32_get _ 2 (by omega))) rfl rfl rfl H180 ?_
    clear H180; intro a181 H181
    refine plain (y_ixA rfl Tryd.underlying91 z_size89 rfl rfl (by omega) (by omega) rfl) rfl rfl rfl H181 ?_
    clear H181; intro a182 H182
    refine plain (y_loadB rfl z_agg89 rfl MM (u32_get _ 3 (by omega))) rfl rfl rfl H182 ?_
    clear H182; intro a183 H183
    refine plain (y_move rfl rfl) rfl rfl rfl H183 ?_
    clear H183; intro a184 H184
    refine plain (y_add32 rfl rfl rfl) rfl rfl rfl H184 ?_
    clear H184; intro a185 H185
    refine plain (y_ixA rfl Tryd.underlying91 z_size89 rfl rfl (by omega) (by omega) rfl) rfl rfl rfl H185 ?_
    clear H185; intro a186 H186
    refine plain (y_loadB rfl z_agg89 rfl MM (u32_get _ 4 (by omega))) rfl rfl rfl H186 ?_
    clear H186; intro a187 H187
    refine plain (y_ixA rfl Tryd.underlying91 z_size89 rfl rfl (by omega) (by omega) rfl) rfl rfl rfl H187 ?_
    clear H187; intro a188 H188
    refine plain (y_loadB rfl z_agg89 rfl MM (u32_get _ 5 (by omega))) rfl rfl rfl H188 ?_
    clear H188; intro a189 H189
    refine plain (y_ixA rfl Tryd.underlying91 z_size89 rfl rfl (by omega) (by omega) rfl) rfl rfl rfl H189 ?_
    clear H189; intro a190 H190
    refine plain (y_loadB rfl z_agg89 rfl MM (u32_get _ 6 (by omega))) rfl rfl rfl H190 ?_
    clear H190; intro a191 H191
    refine plain (y_buildA rfl z_zero91 Tryd.underlying91 z_size89 rfl rfl) rfl rfl rfl H191 ?_
    clear H191; intro a192 H192
    refine st_store (vs := _) rfl z_size91 rfl rfl rfl rfl rfl UU (by simp [hvl]) rfl rfl H192 ?_
    clear H192; intro wx193 H193
    refine fin ?_
    refine inb_n ?_
    refine then_n ?_
    refine reg ?_
    refine plain (y_add rfl rfl rfl (by first | exact w64 (by omega) (by omega) | rfl)) rfl rfl rfl H193 ?_
    clear H193; intro a194 H194
    refine plain (y_move rfl rfl) rfl rfl rfl H194 ?_
    clear H194; intro a195 H195
    refine fin ?_
    refine then_n ?_
    refine ⟨t + 1, by omega, by omega, H195.weak ⟨rfl, rfl, rfl, rfl, fi rfl (by omega), trivial⟩ (ib2 ((spl_all (by rw [List.length_map, hvl]; rfl)).trans ?_) rfl)⟩
    rfl
   ·skip
    refine wp_exit ?_
    refine then_x ?_
    refine then_x ?_
    refine inb_hit ?_
    refine then_n ?_
    refine wp_seq ?_
    refine wp_seq ?_
    refine reg ?_
    refine plain (y_move rfl rfl) rfl rfl rfl H101 ?_
    clear H101; intro a196 H196
    refine fin ?_
    refine then_n ?_
    refine wp_block ?_
    have ht64 : t = 64 := by omega
    subst ht64
    refine loop (ι := Nat) (fun i => [(2, .pointer (some ⟨b1, 0, none⟩)), (4, .pointer (some ⟨b2, 0, none⟩)), (10, .pointer (some ⟨b97, 0, none⟩)), (176, .int .i64 (i : Int))]) (fun i => [It.blk b97 91 ((Sha.rounds s (Sha.sched b 64) 64).map u32), It.blk b3 106 ((Sha.sched b 64).map u32 ++ List.replicate (64 - 64) (.int .u32 0)), It.blk b2 91 (List.replicate 8 (.int .u32 0)), It.blk b1 91 ((Sha.mix s (Sha.rounds s (Sha.sched b 64) 64) i).map u32)]) (fun i => i ≤ 8) (fun i => 8 - i) (0) (Nat.zero_le _) (H196.weak ⟨rfl, rfl, rfl, rfl, trivial⟩ (by rw [Sha.mix_zero])) ?_
    clear H196; intro i a197 wx197 hok197 H197
    have hok4 := hok197
    have hml := Sha.mix_length hs hvl i
    refine wp_seq ?_
    refine reg ?_
    refine plain (y_lss rfl rfl rfl) rfl rfl rfl H197 ?_
    clear H197; intro a198 H198
    refine fin ?_
    refine then_n ?_
    refine wp_seq ?_
    refine cnd_d H198 rfl (fun hc199 => ?_) (fun hc199 => ?_) -- cond 4
    ·skip
     refine wp_skip ?_
     refine then_n ?_
     refine wp_seq ?_
     refine wp_block ?_
     refine wp_seq ?_
     refine reg ?_
     refine plain (y_move rfl rfl) rfl rfl rfl H198 ?_
     clear H198; intro a200 H200
     refine plain (y_assign rfl rfl) rfl rfl rfl H200 ?_
     clear H200; intro a201 H201
     refine fin ?_
     refine then_n ?_
     refine treg 8 (by kernel_rfl) (by kernel_rfl) H201 ?_
     clear H201; intro wx202 H202
     refine tplain (y_move rfl rfl) rfl rfl rfl H202 ?_
     clear H202; intro a203 H203
     refine tplain (y_ixA rfl Tryd.underlying91 z_size89 rfl rfl (by omega) (by omega) rfl) rfl rfl rfl H203 ?_
     clear H203; intro a204 H204
     refine tplain (y_loadB rfl z_agg89 rfl MM (by rw [show 0 + (i : Int).toNat * 1 = i by omega]; exact u32_get _ _ (by omega))) rfl rfl rfl H204 ?_
     clear H204; intro a205 H205
     refine tplain (y_move rfl rfl) rfl rfl rfl H205 ?_
     clear H205; intro a206 H206
     refine tplain (y_ixA rfl Tryd.underlying91 z_size89 rfl rfl (by omega) (by omega) rfl) rfl rfl rfl H206 ?_
     clear H206; intro a207 H207
     refine tplain (y_loadB rfl z_agg89 rfl MM (by rw [show 0 + (i : Int).toNat * 1 = i by omega]; exact u32_get _ _ (by omega))) rfl rfl rfl H207 ?_
     clear H207; intro a208 H208
     refine tplain (y_add32 rfl rfl rfl) rfl rfl rfl H208 ?_
     clear H208; intro a209 H209
     refine tplain (y_ixA rfl Tryd.underlying91 z_size89 rfl rfl (by omega) (by omega) rfl) rfl rfl rfl H209 ?_
     clear H209; intro a210 H210
     refine tfin ?_
     refine st_store1 rfl z_size89 rfl rfl rfl UU (by first | decide | (simp; omega)) rfl rfl H210 ?_
     clear H210; intro wx211 H211
     refine fin ?_
     refine inb_n ?_
     refine then_n ?_
     refine reg ?_
     refine plain (y_add rfl rfl rfl (by first | exact w64 (by omega) (by omega) | rfl)) rfl rfl rfl H211 ?_
     clear H211; intro a212 H212
     refine plain (y_move rfl rfl) rfl rfl rfl H212 ?_
     clear H212; intro a213 H213
     refine fin ?_
     refine then_n ?_
     refine ⟨i + 1, by omega, by omega, H213.weak ⟨rfl, rfl, rfl, fi rfl (by omega), trivial⟩ (ib2 rfl (ib2 rfl (ib2 rfl (ib2 ?_ rfl))))⟩
     rw [u32_set, Sha.mix_get hs hvl (by omega), Sha.mix_succ hs hvl (by omega)]
    ·skip
     refine wp_exit ?_
     refine then_x ?_
     refine then_x ?_
     refine inb_hit ?_
     refine then_n ?_
     refine wp_seq ?_
     refine reg ?_
     refine plain (y_loadAB rfl z_agg91 z_size91 rfl MM (take_all (by simp [hml])) (by simp [hml])) rfl rfl rfl H198 ?_
     clear H198; intro a214 H214
     refine st_store (vs := ((Sha.mix s (Sha.rounds s (Sha.sched b 64) 64) i).map u32)) rfl z_size91 rfl rfl rfl (one_u32 _) (by simp [hml]) UU (by decide) rfl rfl H214 ?_
     clear H214; intro wx215 H215
     refine fin ?_
     refine then_n ?_
     refine wp_ret ?_
     -- return 1
     refine retc rfl H215 rfl z_agg91 z_size91 MM (by simp [spl, hml]) ?_
     have hi8 : i = 8 := by omega
     subst hi8
     refine ⟨_, [], rfl, ⟨?_, rfl⟩, H215.sep.sub (List.nil_sublist _)⟩
     rw [spl_all (by simp [hml]), Sha.mix_all hs hvl]
     rfl

end Go.Proofs.YtlhddgkbbdfacaaDoor.C_Block

set_option linter.unusedVariables false
set_option linter.unusedSimpArgs false
namespace Go.Proofs.YtlhddgkbbdfacaaDoor.C_Sum
open Go.Sx Go.RowKit Go.Proofs.YtlhddgkbbdfacaaDoor.C_Block

theorem z_zero23 : zeroL Tryd.prog 23 = some (List.replicate 32 (.int .u8 0)) := by kernel_rfl
theorem z_zero91 : zeroL Tryd.prog 91 = some ([.int .u32 0, .int .u32 0, .int .u32 0, .int .u32 0, .int .u32 0, .int .u32 0, .int .u32 0, .int .u32 0]) := by kernel_rfl
theorem z_size89 : sizeB Tryd.prog 89 = some 1 := by kernel_rfl
theorem z_size91 : sizeB Tryd.prog 91 = some 8 := by kernel_rfl
theorem z_agg91 : aggB Tryd.prog 91 = some true := by kernel_rfl
theorem z_call50 : callB Tryd.prog 50 = true := by kernel_rfl
theorem z_zero93 : zeroL Tryd.prog 93 = some (List.replicate 128 (.int .u8 0)) := by kernel_rfl
theorem z_size5 : sizeB Tryd.prog 5 = some 1 := by kernel_rfl
theorem z_agg89 : aggB Tryd.prog 89 = some false := by kernel_rfl
theorem z_agg23 : aggB Tryd.prog 23 = some true := by kernel_rfl
theorem z_size23 : sizeB Tryd.prog 23 = some 32 := by kernel_rfl

set_option maxRecDepth 100000 in
set_option maxHeartbeats 4000000 in
theorem dsum (s : List UInt8) (hs : s.length ≤ 1000000000000000000) {w : World} (hG : Glob 0 Sha.K w) : Calls Tryd.prog 33 #[str s] w (Gives (.agg ((Sha.sum s).map u8).toArray) [] w) := by
 refine enterL (args := [str s]) Tryd.func33 rfl rfl (l := []) (Sep.refl _) ?_
 intro a0 H0
 refine wp_seq ?_
 refine reg ?_
 refine st_alloc rfl z_zero23 rfl rfl rfl H0 ?_
 clear H0; intro b1 a1 wx1 H1
 refine fin ?_
 refine then_n ?_
 refine wp_seq ?_
 refine reg ?_
 refine plain (y_buildA rfl z_zero91 Tryd.underlying91 z_size89 rfl rfl) rfl rfl rfl H1 ?_
 clear H1; intro a2 H2
 refine st_alloc rfl z_zero91 rfl rfl rfl H2 ?_
 clear H2; intro b3 a3 wx3 H3
 refine st_store (vs := _) rfl z_size91 rfl rfl rfl rfl rfl UU (by decide) rfl rfl H3 ?_
 clear H3; intro wx4 H4
 refine fin ?_
 refine then_n ?_
 refine wp_seq ?_
 refine reg ?_
 refine plain (y_assign rfl rfl) rfl rfl rfl H4 ?_
 clear H4; intro a5 H5
 refine fin ?_
 refine then_n ?_
 refine wp_seq ?_
 refine wp_block ?_
 refine loop (ι := Nat) (fun q => [(0, str s), (2, .pointer (some ⟨b1, 0, none⟩)), (3, .pointer (some ⟨b3, 0, none⟩)), (4, .int .i64 ((64 * q : Nat) : Int))]) (fun q => [It.blk b3 91 ((Sha.blocks Sha.H0 s q).map u32), It.blk b1 23 (List.replicate 32 (.int .u8 0))]) (fun q => 64 * q ≤ s.length) (fun q => s.length - 64 * q) (0) (by omega) (H5.weak ⟨rfl, rfl, rfl, rfl, trivial⟩ (ib2 (spl_all rfl) rfl)) ?_
 clear H5; intro q a6 wx6 hok6 H6
 have hok := hok6
 have hvl := Sha.blocks_length (s := Sha.H0) rfl s q
 refine wp_seq ?_
 refine wp_seq ?_
 refine reg ?_
 refine plain (y_move rfl rfl) rfl rfl rfl H6 ?_
 clear H6; intro a7 H7
 refine plain (y_slen rfl Tryd.underlying9 rfl) rfl rfl rfl H7 ?_
 clear H7; intro a8 H8
 refine plain (y_move rfl rfl) rfl rfl rfl H8 ?_
 clear H8; intro a9 H9
 refine plain (y_sub rfl rfl rfl (by first | exact w64 (by omega) (by omega) | rfl)) rfl rfl rfl H9 ?_
 clear H9; intro a10 H10
 refine plain (y_geq rfl rfl rfl) rfl rfl rfl H10 ?_
 clear H10; intro a11 H11
 refine fin ?_
 refine then_n ?_
 refine cnd_d H11 rfl (fun hc12 => ?_) (fun hc12 => ?_) -- cond 1
 ·skip
  refine wp_skip ?_
  refine then_n ?_
  refine wp_seq ?_
  refine wp_block ?_
  refine treg 6 (by kernel_rfl) (by kernel_rfl) H11 ?_
  clear H11; intro wx13 H13
  refine tplain (y_loadAB rfl z_agg91 z_size91 rfl MM (take_all (by simp [hvl])) (by simp [hvl])) rfl rfl rfl H13 ?_
  clear H13; intro a14 H14
  refine tplain (y_move rfl rfl) rfl rfl rfl H14 ?_
  clear H14; intro a15 H15
  refine tplain (y_move rfl rfl) rfl rfl rfl H15 ?_
  clear H15; intro a16 H16
  refine tplain (y_move rfl rfl) rfl rfl rfl H16 ?_
  clear H16; intro a17 H17
  refine tplain (y_add rfl rfl rfl (by first | exact w64 (by omega) (by omega) | rfl)) rfl rfl rfl H17 ?_
  clear H17; intro a18 H18
  refine tplain (y_sslice rfl Tryd.underlying9 rfl rfl rfl (by omega) (by omega) (by omega)) rfl rfl rfl H18 ?_
  clear H18; intro a19 H19
  refine tfin ?_
  refine st_callg rfl z_call50 rfl rfl rfl rfl H19 (dblock (Sha.blocks Sha.H0 s q) (Sha.blocks_length rfl _ _) _ (by simp only [List.length_take, List.length_drop]; omega) (hG.frm H19.sep.frm (by simp))) ?_
  clear H19; intro a20 wx20 H20
  refine st_store (vs := _) rfl z_size91 rfl rfl (show _ = List.map u32 _ from rfl) (one_u32 _) (by simp [Sha.block_length hvl]) UU (by simp [hvl]) rfl rfl H20 ?_
  clear H20; intro wx21 H21
  refine fin ?_
  refine inb_n ?_
  refine then_n ?_
  refine reg ?_
  refine plain (y_move rfl rfl) rfl rfl rfl H21 ?_
  clear H21; intro a22 H22
  refine plain (y_add rfl rfl rfl (by first | exact w64 (by omega) (by omega) | rfl)) rfl rfl rfl H22 ?_
  clear H22; intro a23 H23
  refine plain (y_assign rfl rfl) rfl rfl rfl H23 ?_
  clear H23; intro a24 H24
  refine fin ?_
  refine then_n ?_
  refine ⟨q + 1, by omega, by omega, H24.weak ⟨rfl, rfl, rfl, fi rfl (by omega), trivial⟩ (ib2 ((spl_all (by simp [Sha.block_length hvl, hvl])).trans ?_) rfl)⟩
  have e1 : (((64 * q : Nat) : Int)).toNat = 64 * q := by omega
  have e2 : (((64 * q : Nat) : Int) + 64).toNat - (((64 * q : Nat) : Int)).toNat = 64 := by omega
  rw [e2, e1]
  rfl
 ·skip
  refine wp_exit ?_
  refine then_x ?_
  refine then_x ?_
  refine inb_hit ?_
  refine then_n ?_
  refine wp_seq ?_
  refine reg ?_
  refine st_alloc rfl z_zero93 rfl rfl rfl H11 ?_
  clear H11; intro b25 a25 wx25 H25
  refine fin ?_
  refine then_n ?_
  refine wp_seq ?_
  refine treg 4 (by kernel_rfl) (by kernel_rfl) H25 ?_
  clear H25; intro wx26 H26
  refine tplain (y_slA_all rfl Tryd.underlying93 z_size5 (by decide) rfl) rfl rfl rfl H26 ?_
  clear H26; intro a27 H27
  refine tplain (y_move rfl rfl) rfl rfl rfl H27 ?_
  clear H27; intro a28 H28
  refine tplain (y_move rfl rfl) rfl rfl rfl H28 ?_
  clear H28; intro a29 H29
  refine tplain (y_sslice_lo rfl Tryd.underlying9 rfl rfl (by omega) (by omega)) rfl rfl rfl H29 ?_
  clear H29; intro a30 H30
  refine tfin ?_
  refine st_copyT0 rfl Tryd.underlying66 z_size5 rfl rfl UU (by simp only [List.length_drop, List.length_replicate]; omega) (by decide) rfl rfl rfl rfl H30 ?_
  clear H30; intro a31 wx31 H31
  refine plain (y_assign rfl rfl) rfl rfl rfl H31 ?_
  clear H31; intro a32 H32
  refine fin ?_
  refine then_n ?_
  refine wp_seq ?_
  refine reg ?_
  have e64 : (((64 * q : Nat) : Int)).toNat = 64 * q := by omega
  rw [e64] at H32
  have htd : (s.drop (64 * q)).length = s.length - 64 * q := List.length_drop
  refine plain (y_move rfl rfl) rfl rfl rfl H32 ?_
  clear H32; intro a33 H33
  refine plain (y_ixA rfl Tryd.underlying93 z_size5 rfl rfl (by omega) (by omega) rfl) rfl rfl rfl H33 ?_
  clear H33; intro a34 H34
  refine st_store1 rfl z_size5 rfl rfl rfl UU (by simp [spl]; omega) rfl rfl H34 ?_
  clear H34; intro wx35 H35
  refine fin ?_
  refine then_n ?_
  refine wp_seq ?_
  refine reg ?_
  refine plain (y_assign rfl rfl) rfl rfl rfl H35 ?_
  clear H35; intro a36 H36
  refine fin ?_
  refine then_n ?_
  refine wp_seq ?_
  refine wp_seq ?_
  refine reg ?_
  refine plain (y_move rfl rfl) rfl rfl rfl H36 ?_
  clear H36; intro a37 H37
  refine plain (y_geq rfl rfl rfl) rfl rfl rfl H37 ?_
  clear H37; intro a38 H38
  refine fin ?_
  refine then_n ?_
  refine cnd_d H38 rfl (fun hc39 => ?_) (fun hc39 => ?_) -- cond 2
  ·skip
   refine reg ?_
   refine plain (y_assign rfl rfl) rfl rfl rfl H38 ?_
   clear H38; intro a40 H40
   refine fin ?_
   refine then_n ?_
   refine wp_seq ?_
   refine reg ?_
   refine plain (y_move rfl rfl) rfl rfl rfl H40 ?_
   clear H40; intro a41 H41
   refine plain (y_slen rfl Tryd.underlying9 rfl) rfl rfl rfl H41 ?_
   clear H41; intro a42 H42
   refine plain (y_conv rfl Tryd.underlying3 Tryd.underlying94 rfl (by first | exact wu64 (by omega) (by omega) | rfl)) rfl rfl rfl H42 ?_
   clear H42; intro a43 H43
   refine plain (y_mul rfl rfl rfl (by first | exact wu64 (by omega) (by omega) | rfl)) rfl rfl rfl H43 ?_
   clear H43; intro a44 H44
   refine plain (y_assign rfl rfl) rfl rfl rfl H44 ?_
   clear H44; intro a45 H45
   refine fin ?_
   refine then_n ?_
   refine wp_seq ?_
   refine wp_seq ?_
   refine reg ?_
   refine plain (y_move rfl rfl) rfl rfl rfl H45 ?_
   clear H45; intro a46 H46
   refine fin ?_
   refine then_n ?_
   refine wp_block ?_
   obtain ⟨m, hmd⟩ : ∃ m : Nat, m = (if 56 ≤ s.length - 64 * q then 128 else 64) := ⟨_, rfl⟩
   have hmz : m = 64 ∨ m = 128 := by rw [hmd]; split <;> omega
   have hmt : (s.drop (64 * q)).length + 9 ≤ m := by rw [hmd, htd]; split <;> omega
   have htl := Sha.tail_length (s.drop (64 * q)) m (8 * s.length)
   replace htl := fun i hi => htl i hmt (by omega) hi
   refine loop (ι := Nat) (fun i => [(2, .pointer (some ⟨b1, 0, none⟩)), (3, .pointer (some ⟨b3, 0, none⟩)), (5, .pointer (some ⟨b25, 0, none⟩)), (7, .int .i64 (m : Int)), (8, .int .u64 ((8 * s.length : Nat) : Int)), (42, .int .i64 (i : Int))]) (fun i => [It.blk b25 93 ((Sha.tail (s.drop (64 * q)) m (8 * s.length) i).map u8), It.blk b3 91 ((Sha.blocks Sha.H0 s q).map u32), It.blk b1 23 (List.replicate 32 (.int .u8 0))]) (fun i => i ≤ 8) (fun i => 8 - i) (0) (Nat.zero_le _) (H46.weak ⟨rfl, rfl, rfl, fi rfl (by rw [hmd]; first | (rw [if_pos (by omega)]; rfl) | (rw [if_neg (by omega)]; rfl)), fi rfl (by omega), rfl, trivial⟩ (ib2 (by rw [Sha.tail_zero _ _ _ hmt (by omega)]; exact end_zero _ (by omega)) rfl)) ?_
   clear H46; intro i a47 wx47 hok47 H47
   have hok2 := hok47
   have htli := htl i hok2
   refine wp_seq ?_
   refine reg ?_
   refine plain (y_lss rfl rfl rfl) rfl rfl rfl H47 ?_
   clear H47; intro a48 H48
   refine fin ?_
   refine then_n ?_
   refine wp_seq ?_
   refine cnd_d H48 rfl (fun hc49 => ?_) (fun hc49 => ?_) -- cond 3
   ·skip
    refine wp_skip ?_
    refine then_n ?_
    refine wp_seq ?_
    refine wp_block ?_
    refine wp_seq ?_
    refine reg ?_
    refine plain (y_move rfl rfl) rfl rfl rfl H48 ?_
    clear H48; intro a50 H50
    refine plain (y_assign rfl rfl) rfl rfl rfl H50 ?_
    clear H50; intro a51 H51
    refine fin ?_
    refine then_n ?_
    refine reg ?_
    refine plain (y_move rfl rfl) rfl rfl rfl H51 ?_
    clear H51; intro a52 H52
    refine plain (y_sub rfl rfl rfl (by first | exact w64 (by omega) (by omega) | rfl)) rfl rfl rfl H52 ?_
    clear H52; intro a53 H53
    refine plain (y_move rfl rfl) rfl rfl rfl H53 ?_
    clear H53; intro a54 H54
    refine plain (y_sub rfl rfl rfl (by first | exact w64 (by omega) (by omega) | rfl)) rfl rfl rfl H54 ?_
    clear H54; intro a55 H55
    refine plain (y_move rfl rfl) rfl rfl rfl H55 ?_
    clear H55; intro a56 H56
    refine plain (y_move rfl rfl) rfl rfl rfl H56 ?_
    clear H56; intro a57 H57
    refine plain (y_mul rfl rfl rfl (by first | exact w64 (by omega) (by omega) | rfl)) rfl rfl rfl H57 ?_
    clear H57; intro a58 H58
    refine plain (y_shr rfl rfl rfl (by omega) (shrU (8 * s.length) i (by omega))) rfl rfl rfl H58 ?_
    clear H58; intro a59 H59
    refine plain (y_conv rfl Tryd.underlying94 Tryd.underlying5 rfl (wu8_nat _)) rfl rfl rfl H59 ?_
    clear H59; intro a60 H60
    refine plain (y_ixA rfl Tryd.underlying93 z_size5 rfl rfl (by omega) (by omega) rfl) rfl rfl rfl H60 ?_
    clear H60; intro a61 H61
    refine st_store1 rfl z_size5 rfl rfl rfl UU (by rw [List.length_map, htli]; omega) rfl rfl H61 ?_
    clear H61; intro wx62 H62
    refine fin ?_
    refine inb_n ?_
    refine then_n ?_
    refine reg ?_
    refine plain (y_add rfl rfl rfl (by first | exact w64 (by omega) (by omega) | rfl)) rfl rfl rfl H62 ?_
    clear H62; intro a63 H63
    refine plain (y_move rfl rfl) rfl rfl rfl H63 ?_
    clear H63; intro a64 H64
    refine fin ?_
    refine then_n ?_
    refine ⟨i + 1, by omega, by omega, H64.weak ⟨rfl, rfl, rfl, rfl, rfl, fi rfl (by omega), trivial⟩ (ib2 ?_ rfl)⟩
    rw [show 0 + ((m : Int) - 1 - (i : Int)).toNat * 1 = m - 1 - i by omega]
    exact (u8_set _ _ _).trans (by rw [Sha.tail_succ _ _ _ _ hmt (by omega)])
   ·skip
    refine wp_exit ?_
    refine then_x ?_
    refine then_x ?_
    refine inb_hit ?_
    refine then_n ?_
    refine wp_seq ?_
    refine wp_seq ?_
    refine reg ?_
    refine plain (y_assign rfl rfl) rfl rfl rfl H48 ?_
    clear H48; intro a65 H65
    refine fin ?_
    refine then_n ?_
    refine wp_block ?_
    have hi8 : i = 8 := by omega
    subst hi8
    refine loop (ι := Nat) (fun j => [(2, .pointer (some ⟨b1, 0, none⟩)), (3, .pointer (some ⟨b3, 0, none⟩)), (5, .pointer (some ⟨b25, 0, none⟩)), (7, .int .i64 (m : Int)), (10, .int .i64 ((64 * j : Nat) : Int))]) (fun j => [It.blk b25 93 ((Sha.tail (s.drop (64 * q)) m (8 * s.length) 8).map u8), It.blk b3 91 ((Sha.blocks (Sha.blocks Sha.H0 s q) ((Sha.pad s).drop (64 * q)) j).map u32), It.blk b1 23 (List.replicate 32 (.int .u8 0))]) (fun j => 64 * j ≤ m) (fun j => m - 64 * j) (0) (Nat.zero_le _) (H65.weak ⟨rfl, rfl, rfl, rfl, rfl, trivial⟩ rfl) ?_
    clear H65; intro j a66 wx66 hok66 H66
    have hok3 := hok66
    have hv2 := Sha.blocks_length (s := Sha.blocks Sha.H0 s q) hvl ((Sha.pad s).drop (64 * q)) j
    refine wp_seq ?_
    refine wp_seq ?_
    refine reg ?_
    refine plain (y_move rfl rfl) rfl rfl rfl H66 ?_
    clear H66; intro a67 H67
    refine plain (y_move rfl rfl) rfl rfl rfl H67 ?_
    clear H67; intro a68 H68
    refine plain (y_lss rfl rfl rfl) rfl rfl rfl H68 ?_
    clear H68; intro a69 H69
    refine fin ?_
    refine then_n ?_
    refine cnd_d H69 rfl (fun hc70 => ?_) (fun hc70 => ?_) -- cond 4
    ·skip
     refine wp_skip ?_
     refine then_n ?_
     refine wp_seq ?_
     refine wp_block ?_
     refine treg 6 (by kernel_rfl) (by kernel_rfl) H69 ?_
     clear H69; intro wx71 H71
     refine tplain (y_loadAB rfl z_agg91 z_size91 rfl MM (take_all (by simp [hv2])) (by simp [hv2])) rfl rfl rfl H71 ?_
     clear H71; intro a72 H72
     refine tplain (y_move rfl rfl) rfl rfl rfl H72 ?_
     clear H72; intro a73 H73
     refine tplain (y_move rfl rfl) rfl rfl rfl H73 ?_
     clear H73; intro a74 H74
     refine tplain (y_add rfl rfl rfl (by first | exact w64 (by omega) (by omega) | rfl)) rfl rfl rfl H74 ?_
     clear H74; intro a75 H75
     refine tplain (y_slA_lh rfl Tryd.underlying93 z_size5 rfl rfl rfl (by omega) (by omega) (by omega)) rfl rfl rfl H75 ?_
     clear H75; intro a76 H76
     refine tplain (y_bstr (p := ((Sha.tail (s.drop (64 * q)) m (8 * s.length) 8).drop (64 * j)).take 64) rfl Tryd.underlying66 Tryd.underlying5 Tryd.underlying9 rfl (by simp only [List.length_take, List.length_drop, htl 8 (by omega)]; omega) (rd_slLH (64 * j) 64 MM (htl 8 (by omega)))) rfl rfl rfl H76 ?_
     clear H76; intro a77 H77
     refine tfin ?_
     refine st_callg rfl z_call50 rfl rfl rfl rfl H77 (dblock (Sha.blocks (Sha.blocks Sha.H0 s q) ((Sha.pad s).drop (64 * q)) j) (Sha.blocks_length (Sha.blocks_length rfl _ _) _ _) _ (by simp only [List.length_take, List.length_drop, htl]; omega) (hG.frm H77.sep.frm (by simp))) ?_
     clear H77; intro a78 wx78 H78
     refine st_store (vs := _) rfl z_size91 rfl rfl (show _ = List.map u32 _ from rfl) (one_u32 _) (by simp [Sha.block_length hv2]) UU (by simp [hv2]) rfl rfl H78 ?_
     clear H78; intro wx79 H79
     refine fin ?_
     refine inb_n ?_
     refine then_n ?_
     refine reg ?_
     refine plain (y_move rfl rfl) rfl rfl rfl H79 ?_
     clear H79; intro a80 H80
     refine plain (y_add rfl rfl rfl (by first | exact w64 (by omega) (by omega) | rfl)) rfl rfl rfl H80 ?_
     clear H80; intro a81 H81
     refine plain (y_assign rfl rfl) rfl rfl rfl H81 ?_
     clear H81; intro a82 H82
     refine fin ?_
     refine then_n ?_
     refine ⟨j + 1, by omega, by omega, H82.weak ⟨rfl, rfl, rfl, rfl, fi rfl (by omega), trivial⟩ (ib2 rfl (ib2 ((spl_all (by simp [Sha.block_length hv2, hv2])).trans ?_) rfl))⟩
     have e1 : (((64 * j : Nat) : Int)).toNat = 64 * j := by omega
     have e2 : (((64 * j : Nat) : Int) + 64).toNat - (((64 * j : Nat) : Int)).toNat = 64 := by omega
     rw [Sha.tail_block s q m j hok (by omega) hmd (by omega)]
     rfl
    ·skip
     refine wp_exit ?_
     refine then_x ?_
     refine then_x ?_
     refine inb_hit ?_
     refine then_n ?_
     refine wp_seq ?_
     refine reg ?_
     refine st_alloc rfl z_zero23 rfl rfl rfl H69 ?_
     clear H69; intro b83 a83 wx83 H83
     refine fin ?_
     refine then_n ?_
     refine wp_seq ?_
     refine wp_seq ?_
     refine reg ?_
     refine plain (y_loadAB rfl z_agg91 z_size91 rfl MM (take_all (by simp [hv2])) (by simp [hv2])) rfl rfl rfl H83 ?_
     clear H83; intro a84 H84
     refine plain (y_move rfl rfl) rfl rfl rfl H84 ?_
     clear H84; intro a85 H85
     refine fin ?_
     refine then_n ?_
     refine wp_block ?_
     refine loop (ι := Nat) (fun i => [(2, .pointer (some ⟨b1, 0, none⟩)), (11, .pointer (some ⟨b83, 0, none⟩)), (68, .agg ((Sha.blocks (Sha.blocks Sha.H0 s q) ((Sha.pad s).drop (64 * q)) j).map u32).toArray), (69, .int .i64 (i : Int))]) (fun i => [It.blk b83 23 ((Sha.out ((Sha.blocks (Sha.blocks Sha.H0 s q) ((Sha.pad s).drop (64 * q)) j).take i)).map u8 ++ List.replicate (32 - 4 * i) (.int .u8 0)), It.blk b25 93 ((Sha.tail (s.drop (64 * q)) m (8 * s.length) 8).map u8), It.blk b3 91 ((Sha.blocks (Sha.blocks Sha.H0 s q) ((Sha.pad s).drop (64 * q)) j).map u32), It.blk b1 23 (List.replicate 32 (.int .u8 0))]) (fun i => i ≤ 8) (fun i => 8 - i) (0) (Nat.zero_le _) (H85.weak ⟨rfl, rfl, rfl, rfl, trivial⟩ rfl) ?_
     clear H85; intro i a86 wx86 hok86 H86
     have hok4 := hok86
     have hol := Sha.out_length ((Sha.blocks (Sha.blocks Sha.H0 s q) ((Sha.pad s).drop (64 * q)) j).take i)
     rw [List.length_take, hv2] at hol
     refine wp_seq ?_
     refine reg ?_
     refine plain (y_lss rfl rfl rfl) rfl rfl rfl H86 ?_
     clear H86; intro a87 H87
     refine fin ?_
     refine then_n ?_
     refine wp_seq ?_
     refine cnd_d H87 rfl (fun hc88 => ?_) (fun hc88 => ?_) -- cond 5
     ·skip
      refine wp_skip ?_
      refine then_n ?_
      refine wp_seq ?_
      refine wp_block ?_
      refine wp_seq ?_
      refine reg ?_
      refine plain (y_move rfl rfl) rfl rfl rfl H87 ?_
      clear H87; intro a89 H89
      refine plain (y_aidx rfl Tryd.underlying91 z_agg89 z_size89 rfl rfl (by omega) (by omega) (u32_get _ _ (by omega))) rfl rfl rfl H89 ?_
      clear H89; intro a90 H90
      refine plain (y_assign rfl rfl) rfl rfl rfl H90 ?_
      clear H90; intro a91 H91
      refine plain (y_assign rfl rfl) rfl rfl rfl H91 ?_
      clear H91; intro a92 H92
      refine fin ?_
      refine then_n ?_
      refine reg ?_
      refine plain (y_move rfl rfl) rfl rfl rfl H92 ?_
      clear H92; intro a93 H93
      refine plain (y_mul rfl rfl rfl (by first | exact w64 (by omega) (by omega) | rfl)) rfl rfl rfl H93 ?_
      clear H93; intro a94 H94
      refine plain (y_move rfl rfl) rfl rfl rfl H94 ?_
      clear H94; intro a95 H95
      refine plain (y_mul rfl rfl rfl (by first | exact w64 (by omega) (by omega) | rfl)) rfl rfl rfl H95 ?_
      clear H95; intro a96 H96
      refine plain (y_add rfl rfl rfl (by first | exact w64 (by omega) (by omega) | rfl)) rfl rfl rfl H96 ?_
      clear H96; intro a97 H97
      refine plain (y_move rfl rfl) rfl rfl rfl H97 ?_
      clear H97; intro a98 H98
      refine plain (y_mul rfl rfl rfl (by first | exact w64 (by omega) (by omega) | rfl)) rfl rfl rfl H98 ?_
      clear H98; intro a99 H99
      refine plain (y_add rfl rfl rfl (by first | exact w64 (by omega) (by omega) | rfl)) rfl rfl rfl H99 ?_
      clear H99; intro a100 H100
      refine plain (y_move rfl rfl) rfl rfl rfl H100 ?_
      clear H100; intro a101 H101
      refine plain (y_mul rfl rfl rfl (by first | exact w64 (by omega) (by omega) | rfl)) rfl rfl rfl H101 ?_
      clear H101; intro a102 H102
      refine plain (y_add rfl rfl rfl (by first | exact w64 (by omega) (by omega) | rfl)) rfl rfl rfl H102 ?_
      clear H102; intro a103 H103
      refine plain (y_move rfl rfl) rfl rfl rfl H103 ?_
      clear H103; intro a104 H104
      refine plain (y_shr32 (k := 24) rfl rfl rfl (by omega)) rfl rfl rfl H104 ?_
      clear H104; intro a105 H105
      refine plain (y_low rfl Tryd.underlying89 Tryd.underlying5 rfl) rfl rfl rfl H105 ?_
      clear H105; intro a106 H106
      refine plain (y_move rfl rfl) rfl rfl rfl H106 ?_
      clear H106; intro a107 H107
      refine plain (y_shr32 (k := 16) rfl rfl rfl (by omega)) rfl rfl rfl H107 ?_
      clear H107; intro a108 H108
      refine plain (y_low rfl Tryd.underlying89 Tryd.underlying5 rfl) rfl rfl rfl H108 ?_
      clear H108; intro a109 H109
      refine plain (y_move rfl rfl) rfl rfl rfl H109 ?_
      clear H109; intro a110 H110
      refine plain (y_shr32 (k := 8) rfl rfl rfl (by omega)) rfl rfl rfl H110 ?_
      clear H110; intro a111 H111
      refine plain (y_low rfl Tryd.underlying89 Tryd.underlying5 rfl) rfl rfl rfl H111 ?_
      clear H111; intro a112 H112
      refine plain (y_move rfl rfl) rfl rfl rfl H112 ?_
      clear H112; intro a113 H113
      refine plain (y_low rfl Tryd.underlying89 Tryd.underlying5 rfl) rfl rfl rfl H113 ?_
      clear H113; intro a114 H114
      refine plain (y_ixA rfl Tryd.underlying23 z_size5 rfl rfl (by omega) (by omega) rfl) rfl rfl rfl H114 ?_
      clear H114; intro a115 H115
      refine st_store1 rfl z_size5 rfl rfl rfl UU (by simp [hol]; omega) rfl rfl H115 ?_
      clear H115; intro wx116 H116
      refine plain (y_ixA rfl Tryd.underlying23 z_size5 rfl rfl (by omega) (by omega) rfl) rfl rfl rfl H116 ?_
      clear H116; intro a117 H117
      refine st_store1 rfl z_size5 rfl rfl rfl UU (by simp [hol]; omega) rfl rfl H117 ?_
      clear H117; intro wx118 H118
      refine plain (y_ixA rfl Tryd.underlying23 z_size5 rfl rfl (by omega) (by omega) rfl) rfl rfl rfl H118 ?_
      clear H118; intro a119 H119
      refine st_store1 rfl z_size5 rfl rfl rfl UU (by simp [hol]; omega) rfl rfl H119 ?_
      clear H119; intro wx120 H120
      refine plain (y_ixA rfl Tryd.underlying23 z_size5 rfl rfl (by omega) (by omega) rfl) rfl rfl rfl H120 ?_
      clear H120; intro a121 H121
      refine st_store1 rfl z_size5 rfl rfl rfl UU (by simp [hol]; omega) rfl rfl H121 ?_
      clear H121; intro wx122 H122
      refine fin ?_
      refine inb_n ?_
      refine then_n ?_
      refine reg ?_
      refine plain (y_add rfl rfl rfl (by first | exact w64 (by omega) (by omega) | rfl)) rfl rfl rfl H122 ?_
      clear H122; intro a123 H123
      refine plain (y_move rfl rfl) rfl rfl rfl H123 ?_
      clear H123; intro a124 H124
      refine fin ?_
      refine then_n ?_
      refine ⟨i + 1, by omega, by omega, H124.weak ⟨rfl, rfl, rfl, fi rfl (by omega), trivial⟩ (ib2 ?_ rfl)⟩
      rw [Sha.out_take (by omega)]
      exact set4 _ 32 _ _ _ _ i (by omega) (by omega) _ _ _ _ (by omega) (by omega) (by omega) (by omega)
     ·skip
      refine wp_exit ?_
      refine then_x ?_
      refine then_x ?_
      refine inb_hit ?_
      refine then_n ?_
      refine wp_seq ?_
      refine reg ?_
      refine plain (y_loadAB rfl z_agg23 z_size23 rfl MM (take_all (by simp [hol]; omega)) (by simp [hol]; omega)) rfl rfl rfl H87 ?_
      clear H87; intro a125 H125
      refine st_store (vs := _) rfl z_size23 rfl rfl (show _ = List.map u8 _ ++ List.replicate _ _ from rfl) (by simp [Value.oneCell']) (by simp [hol]; omega) UU (by decide) rfl rfl H125 ?_
      clear H125; intro wx126 H126
      refine fin ?_
      refine then_n ?_
      refine wp_ret ?_
      -- return 1
      refine retc rfl H126 rfl z_agg23 z_size23 MM (by simp [spl, hol]; omega) ?_
      have hi8 : i = 8 := by omega
      subst hi8
      have hj : 64 * j = m := by omega
      refine ⟨_, [], rfl, ⟨?_, rfl⟩, H126.sep.sub (List.nil_sublist _)⟩
      rw [spl_all (by simp [hol]), List.take_of_length_le (by omega), ← Sha.sum_is s q m hok (by omega) hmd j hj]
      simp
  ·skip
   refine wp_skip ?_
   refine then_n ?_
   refine wp_seq ?_
   refine reg ?_
   refine plain (y_move rfl rfl) rfl rfl rfl H38 ?_
   clear H38; intro a127 H127
   refine plain (y_slen rfl Tryd.underlying9 rfl) rfl rfl rfl H127 ?_
   clear H127; intro a128 H128
   refine plain (y_conv rfl Tryd.underlying3 Tryd.underlying94 rfl (by first | exact wu64 (by omega) (by omega) | rfl)) rfl rfl rfl H128 ?_
   clear H128; intro a129 H129
   refine plain (y_mul rfl rfl rfl (by first | exact wu64 (by omega) (by omega) | rfl)) rfl rfl rfl H129 ?_
   clear H129; intro a130 H130
   refine plain (y_assign rfl rfl) rfl rfl rfl H130 ?_
   clear H130; intro a131 H131
   refine fin ?_
   refine then_n ?_
   refine wp_seq ?_
   refine wp_seq ?_
   refine reg ?_
   refine plain (y_move rfl rfl) rfl rfl rfl H131 ?_
   clear H131; intro a132 H132
   refine fin ?_
   refine then_n ?_
   refine wp_block ?_
   obtain ⟨m, hmd⟩ : ∃ m : Nat, m = (if 56 ≤ s.length - 64 * q then 128 else 64) := ⟨_, rfl⟩
   have hmz : m = 64 ∨ m = 128 := by rw [hmd]; split <;> omega
   have hmt : (s.drop (64 * q)).length + 9 ≤ m := by rw [hmd, htd]; split <;> omega
   have htl := Sha.tail_length (s.drop (64 * q)) m (8 * s.length)
   replace htl := fun i hi => htl i hmt (by omega) hi
   refine loop (ι := Nat) (fun i => [(2, .pointer (some ⟨b1, 0, none⟩)), (3, .pointer (some ⟨b3, 0, none⟩)), (5, .pointer (some ⟨b25, 0, none⟩)), (7, .int .i64 (m : Int)), (8, .int .u64 ((8 * s.length : Nat) : Int)), (42, .int .i64 (i : Int))]) (fun i => [It.blk b25 93 ((Sha.tail (s.drop (64 * q)) m (8 * s.length) i).map u8), It.blk b3 91 ((Sha.blocks Sha.H0 s q).map u32), It.blk b1 23 (List.replicate 32 (.int .u8 0))]) (fun i => i ≤ 8) (fun i => 8 - i) (0) (Nat.zero_le _) (H132.weak ⟨rfl, rfl, rfl, fi rfl (by rw [hmd]; first | (rw [if_pos (by omega)]; rfl) | (rw [if_neg (by omega)]; rfl)), fi rfl (by omega), rfl, trivial⟩ (ib2 (by rw [Sha.tail_zero _ _ _ hmt (by omega)]; exact end_zero _ (by omega)) rfl)) ?_
   clear H132; intro i a133 wx133 hok133 H133
   have hok2 := hok133
   have htli := htl i hok2
   refine wp_seq ?_
   refine reg ?_
   refine plain (y_lss rfl rfl rfl) rfl rfl rfl H133 ?_
   clear H133; intro a134 H134
   refine fin ?_
   refine then_n ?_
   refine wp_seq ?_
   refine cnd_d H134 rfl (fun hc135 => ?_) (fun hc135 => ?_) -- cond 6
   ·skip
    refine wp_skip ?_
    refine then_n ?_
    refine wp_seq ?_
    refine wp_block ?_
    refine wp_seq ?_
    refine reg ?_
    refine plain (y_move rfl rfl) rfl rfl rfl H134 ?_
    clear H134; intro a136 H136
    refine plain (y_assign rfl rfl) rfl rfl rfl H136 ?_
    clear H136; intro a137 H137
    refine fin ?_
    refine then_n ?_
    refine reg ?_
    refine plain (y_move rfl rfl) rfl rfl rfl H137 ?_
    clear H137; intro a138 H138
    refine plain (y_sub rfl rfl rfl (by first | exact w64 (by omega) (by omega) | rfl)) rfl rfl rfl H138 ?_
    clear H138; intro a139 H139
    refine plain (y_move rfl rfl) rfl rfl rfl H139 ?_
    clear H139; intro a140 H140
    refine plain (y_sub rfl rfl rfl (by first | exact w64 (by omega) (by omega) | rfl)) rfl rfl rfl H140 ?_
    clear H140; intro a141 H141
    refine plain (y_move rfl rfl) rfl rfl rfl H141 ?_
    clear H141; intro a142 H142
    refine plain (y_move rfl rfl) rfl rfl rfl H142 ?_
    clear H142; intro a143 H143
    refine plain (y_mul rfl rfl rfl (by first | exact w64 (by omega) (by omega) | rfl)) rfl rfl rfl H143 ?_
    clear H143; intro a144 H144
    refine plain (y_shr rfl rfl rfl (by omega) (shrU (8 * s.length) i (by omega))) rfl rfl rfl H144 ?_
    clear H144; intro a145 H145
    refine plain (y_conv rfl Tryd.underlying94 Tryd.underlying5 rfl (wu8_nat _)) rfl rfl rfl H145 ?_
    clear H145; intro a146 H146
    refine plain (y_ixA rfl Tryd.underlying93 z_size5 rfl rfl (by omega) (by omega) rfl) rfl rfl rfl H146 ?_
    clear H146; intro a147 H147
    refine st_store1 rfl z_size5 rfl rfl rfl UU (by rw [List.length_map, htli]; omega) rfl rfl H147 ?_
    clear H147; intro wx148 H148
    refine fin ?_
    refine inb_n ?_
    refine then_n ?_
    refine reg ?_
    refine plain (y_add rfl rfl rfl (by first | exact w64 (by omega) (by omega) | rfl)) rfl rfl rfl H148 ?_
    clear H148; intro a149 H149
    refine plain (y_move rfl rfl) rfl rfl rfl H149 ?_
    clear H149; intro a150 H150
    refine fin ?_
    refine then_n ?_
    refine ⟨i + 1, by omega, by omega, H150.weak ⟨rfl, rfl, rfl, rfl, rfl, fi rfl (by omega), trivial⟩ (ib2 ?_ rfl)⟩
    rw [show 0 + ((m : Int) - 1 - (i : Int)).toNat * 1 = m - 1 - i by omega]
    exact (u8_set _ _ _).trans (by rw [Sha.tail_succ _ _ _ _ hmt (by omega)])
   ·skip
    refine wp_exit ?_
    refine then_x ?_
    refine then_x ?_
    refine inb_hit ?_
    refine then_n ?_
    refine wp_seq ?_
    refine wp_seq ?_
    refine reg ?_
    refine plain (y_assign rfl rfl) rfl rfl rfl H134 ?_
    clear H134; intro a151 H151
    refine fin ?_
    refine then_n ?_
    refine wp_block ?_
    have hi8 : i = 8 := by omega
    subst hi8
    refine loop (ι := Nat) (fun j => [(2, .pointer (some ⟨b1, 0, none⟩)), (3, .pointer (some ⟨b3, 0, none⟩)), (5, .pointer (some ⟨b25, 0, none⟩)), (7, .int .i64 (m : Int)), (10, .int .i64 ((64 * j : Nat) : Int))]) (fun j => [It.blk b25 93 ((Sha.tail (s.drop (64 * q)) m (8 * s.length) 8).map u8), It.blk b3 91 ((Sha.blocks (Sha.blocks Sha.H0 s q) ((Sha.pad s).drop (64 * q)) j).map u32), It.blk b1 23 (List.replicate 32 (.int .u8 0))]) (fun j => 64 * j ≤ m) (fun j => m - 64 * j) (0) (Nat.zero_le _) (H151.weak ⟨rfl, rfl, rfl, rfl, rfl, trivial⟩ rfl) ?_
    clear H151; intro j a152 wx152 hok152 H152
    have hok3 := hok152
    have hv2 := Sha.blocks_length (s := Sha.blocks Sha.H0 s q) hvl ((Sha.pad s).drop (64 * q)) j
    refine wp_seq ?_
    refine wp_seq ?_
    refine reg ?_
    refine plain (y_move rfl rfl) rfl rfl rfl H152 ?_
    clear H152; intro a153 H153
    refine plain (y_move rfl rfl) rfl rfl rfl H153 ?_
    clear H153; intro a154 H154
    refine plain (y_lss rfl rfl rfl) rfl rfl rfl H154 ?_
    clear H154; intro a155 H155
    refine fin ?_
    refine then_n ?_
    refine cnd_d H155 rfl (fun hc156 => ?_) (fun hc156 => ?_) -- cond 7
    ·skip
     refine wp_skip ?_
     refine then_n ?_
     refine wp_seq ?_
     refine wp_block ?_
     refine treg 6 (by kernel_rfl) (by kernel_rfl) H155 ?_
     clear H155; intro wx157 H157
     refine tplain (y_loadAB rfl z_agg91 z_size91 rfl MM (take_all (by simp [hv2])) (by simp [hv2])) rfl rfl rfl H157 ?_
     clear H157; intro a158 H158
     refine tplain (y_move rfl rfl) rfl rfl rfl H158 ?_
     clear H158; intro a159 H159
     refine tplain (y_move rfl rfl) rfl rfl rfl H159 ?_
     clear H159; intro a160 H160
     refine tplain (y_add rfl rfl rfl (by first | exact w64 (by omega) (by omega) | rfl)) rfl rfl rfl H160 ?_
     clear H160; intro a161 H161
     refine tplain (y_slA_lh rfl Tryd.underlying93 z_size5 rfl rfl rfl (by omega) (by omega) (by omega)) rfl rfl rfl H161 ?_
     clear H161; intro a162 H162
     refine tplain (y_bstr (p := ((Sha.tail (s.drop (64 * q)) m (8 * s.length) 8).drop (64 * j)).take 64) rfl Tryd.underlying66 Tryd.underlying5 Tryd.underlying9 rfl (by simp only [List.length_take, List.length_drop, htl 8 (by omega)]; omega) (rd_slLH (64 * j) 64 MM (htl 8 (by omega)))) rfl rfl rfl H162 ?_
     clear H162; intro a163 H163
     refine tfin ?_
     refine st_callg rfl z_call50 rfl rfl rfl rfl H163 (dblock (Sha.blocks (Sha.blocks Sha.H0 s q) ((Sha.pad s).drop (64 * q)) j) (Sha.blocks_length (Sha.blocks_length rfl _ _) _ _) _ (by simp only [List.length_take, List.length_drop, htl]; omega) (hG.frm H163.sep.frm (by simp))) ?_
     clear H163; intro a164 wx164 H164
     refine st_store (vs := _) rfl z_size91 rfl rfl (show _ = List.map u32 _ from rfl) (one_u32 _) (by simp [Sha.block_length hv2]) UU (by simp [hv2]) rfl rfl H164 ?_
     clear H164; intro wx165 H165
     refine fin ?_
     refine inb_n ?_
     refine then_n ?_
     refine reg ?_
     refine plain (y_move rfl rfl) rfl rfl rfl H165 ?_
     clear H165; intro a166 H166
     refine plain (y_add rfl rfl rfl (by first | exact w64 (by omega) (by omega) | rfl)) rfl rfl rfl H166 ?_
     clear H166; intro a167 H167
     refine plain (y_assign rfl rfl) rfl rfl rfl H167 ?_
     clear H167; intro a168 H168
     refine fin ?_
     refine then_n ?_
     refine ⟨j + 1, by omega, by omega, H168.weak ⟨rfl, rfl, rfl, rfl, fi rfl (by omega), trivial⟩ (ib2 rfl (ib2 ((spl_all (by simp [Sha.block_length hv2, hv2])).trans ?_) rfl))⟩
     have e1 : (((64 * j : Nat) : Int)).toNat = 64 * j := by omega
     have e2 : (((64 * j : Nat) : Int) + 64).toNat - (((64 * j : Nat) : Int)).toNat = 64 := by omega
     rw [Sha.tail_block s q m j hok (by omega) hmd (by omega)]
     rfl
    ·skip
     refine wp_exit ?_
     refine then_x ?_
     refine then_x ?_
     refine inb_hit ?_
     refine then_n ?_
     refine wp_seq ?_
     refine reg ?_
     refine st_alloc rfl z_zero23 rfl rfl rfl H155 ?_
     clear H155; intro b169 a169 wx169 H169
     refine fin ?_
     refine then_n ?_
     refine wp_seq ?_
     refine wp_seq ?_
     refine reg ?_
     refine plain (y_loadAB rfl z_agg91 z_size91 rfl MM (take_all (by simp [hv2])) (by simp [hv2])) rfl rfl rfl H169 ?_
     clear H169; intro a170 H170
     refine plain (y_move rfl rfl) rfl rfl rfl H170 ?_
     clear H170; intro a171 H171
     refine fin ?_
     refine then_n ?_
     refine wp_block ?_
     refine loop (ι := Nat) (fun i => [(2, .pointer (some ⟨b1, 0, none⟩)), (11, .pointer (some ⟨b169, 0, none⟩)), (68, .agg ((Sha.blocks (Sha.blocks Sha.H0 s q) ((Sha.pad s).drop (64 * q)) j).map u32).toArray), (69, .int .i64 (i : Int))]) (fun i => [It.blk b169 23 ((Sha.out ((Sha.blocks (Sha.blocks Sha.H0 s q) ((Sha.pad s).drop (64 * q)) j).take i)).map u8 ++ List.replicate (32 - 4 * i) (.int .u8 0)), It.blk b25 93 ((Sha.tail (s.drop (64 * q)) m (8 * s.length) 8).map u8), It.blk b3 91 ((Sha.blocks (Sha.blocks Sha.H0 s q) ((Sha.pad s).drop (64 * q)) j).map u32), It.blk b1 23 (List.replicate 32 (.int .u8 0))]) (fun i => i ≤ 8) (fun i => 8 - i) (0) (Nat.zero_le _) (H171.weak ⟨rfl, rfl, rfl, rfl, trivial⟩ rfl) ?_
     clear H171; intro i a172 wx172 hok172 H172
     have hok4 := hok172
     have hol := Sha.out_length ((Sha.blocks (Sha.blocks Sha.H0 s q) ((Sha.pad s).drop (64 * q)) j).take i)
     rw [List.length_take, hv2] at hol
     refine wp_seq ?_
     refine reg ?_
     refine plain (y_lss rfl rfl rfl) rfl rfl rfl H172 ?_
     clear H172; intro a173 H173
     refine fin ?_
     refine then_n ?_
     refine wp_seq ?_
     refine cnd_d H173 rfl (fun hc174 => ?_) (fun hc174 => ?_) -- cond 8
     ·skip
      refine wp_skip ?_
      refine then_n ?_
      refine wp_seq ?_
      refine wp_block ?_
      refine wp_seq ?_
      refine reg ?_
      refine plain (y_move rfl rfl) rfl rfl rfl H173 ?_
      clear H173; intro a175 H175
      refine plain (y_aidx rfl Tryd.underlying91 z_agg89 z_size89 rfl rfl (by omega) (by omega) (u32_get _ _ (by omega))) rfl rfl rfl H175 ?_
      clear H175; intro a176 H176
      refine plain (y_assign rfl rfl) rfl rfl rfl H176 ?_
      clear H176; intro a177 H177
      refine plain (y_assign rfl rfl) rfl rfl rfl H177 ?_
      clear H177; intro a178 H178
      refine fin ?_
      refine then_n ?_
      refine reg ?_
      refine plain (y_move rfl rfl) rfl rfl rfl H178 ?_
      clear H178; intro a179 H179
      refine plain (y_mul rfl rfl rfl (by first | exact w64 (by omega) (by omega) | rfl)) rfl rfl rfl H179 ?_
      clear H179; intro a180 H180
      refine plain (y_move rfl rfl) rfl rfl rfl H180 ?_
      clear H180; intro a181 H181
      refine plain (y_mul rfl rfl rfl (by first | exact w64 (by omega) (by omega) | rfl)) rfl rfl rfl H181 ?_
      clear H181; intro a182 H182
      refine plain (y_add rfl rfl rfl (by first | exact w64 (by omega) (by omega) | rfl)) rfl rfl rfl H182 ?_
      clear H182; intro a183 H183
      refine plain (y_move rfl rfl) rfl rfl rfl H183 ?_
      clear H183; intro a184 H184
      refine plain (y_mul rfl rfl rfl (by first | exact w64 (by omega) (by omega) | rfl)) rfl rfl rfl H184 ?_
      clear H184; intro a185 H185
      refine plain (y_add rfl rfl rfl (by first | exact w64 (by omega) (by omega) | rfl)) rfl rfl rfl H185 ?_
      clear H185; intro a186 H186
      refine plain (y_move rfl rfl) rfl rfl rfl H186 ?_
      clear H186; intro a187 H187
      refine plain (y_mul rfl rfl rfl (by first | exact w64 (by omega) (by omega) | rfl)) rfl rfl rfl H187 ?_
      clear H187; intro a188 H188
      refine plain (y_add rfl rfl rfl (by first | exact w64 (by omega) (by omega) | rfl)) rfl rfl rfl H188 ?_
      clear H188; intro a189 H189
      refine plain (y_move rfl rfl) rfl rfl rfl H189 ?_
      clear H189; intro a190 H190
      refine plain (y_shr32 (k := 24) rfl rfl rfl (by omega)) rfl rfl rfl H190 ?_
      clear H190; intro a191 H191
      refine plain (y_low rfl Tryd.underlying89 Tryd.underlying5 rfl) rfl rfl rfl H191 ?_
      clear H191; intro a192 H192
      refine plain (y_move rfl rfl) rfl rfl rfl H192 ?_
      clear H192; intro a193 H193
      refine plain (y_shr32 (k := 16) rfl rfl rfl (by omega)) rfl rfl rfl H193 ?_
      clear H193; intro a194 H194
      refine plain (y_low rfl Tryd.underlying89 Tryd.underlying5 rfl) rfl rfl rfl H194 ?_
      clear H194; intro a195 H195
      refine plain (y_move rfl rfl) rfl rfl rfl H195 ?_
      clear H195; intro a196 H196
      refine plain (y_shr32 (k := 8) rfl rfl rfl (by omega)) rfl rfl rfl H196 ?_
      clear H196; intro a197 H197
      refine plain (y_low rfl Tryd.underlying89 Tryd.underlying5 rfl) rfl rfl rfl H197 ?_
      clear H197; intro a198 H198
      refine plain (y_move rfl rfl) rfl rfl rfl H198 ?_
      clear H198; intro a199 H199
      refine plain (y_low rfl Tryd.underlying89 Tryd.underlying5 rfl) rfl rfl rfl H199 ?_
      clear H199; intro a200 H200
      refine plain (y_ixA rfl Tryd.underlying23 z_size5 rfl rfl (by omega) (by omega) rfl) rfl rfl rfl H200 ?_
      clear H200; intro a201 H201
      refine st_store1 rfl z_size5 rfl rfl rfl UU (by simp [hol]; omega) rfl rfl H201 ?_
      clear H201; intro wx202 H202
      refine plain (y_ixA rfl Tryd.underlying23 z_size5 rfl rfl (by omega) (by omega) rfl) rfl rfl rfl H202 ?_
      clear H202; intro a203 H203
      refine st_store1 rfl z_size5 rfl rfl rfl UU (by simp [hol]; omega) rfl rfl H203 ?_
      clear H203; intro wx204 H204
      refine plain (y_ixA rfl Tryd.underlying23 z_size5 rfl rfl (by omega) (by omega) rfl) rfl rfl rfl H204 ?_
      clear H204; intro a205 H205
      refine st_store1 rfl z_size5 rfl rfl rfl UU (by simp [hol]; omega) rfl rfl H205 ?_
      clear H205; intro wx206 H206
      refine plain (y_ixA rfl Tryd.underlying23 z_size5 rfl rfl (by omega) (by omega) rfl) rfl rfl rfl H206 ?_
      clear H206; intro a207 H207
      refine st_store1 rfl z_size5 rfl rfl rfl UU (by simp [hol]; omega) rfl rfl H207 ?_
      clear H207; intro wx208 H208
      refine fin ?_
      refine inb_n ?_
      refine then_n ?_
      refine reg ?_
      refine plain (y_add rfl rfl rfl (by first | exact w64 (by omega) (by omega) | rfl)) rfl rfl rfl H208 ?_
      clear H208; intro a209 H209
      refine plain (y_move rfl rfl) rfl rfl rfl H209 ?_
      clear H209; intro a210 H210
      refine fin ?_
      refine then_n ?_
      refine ⟨i + 1, by omega, by omega, H210.weak ⟨rfl, rfl, rfl, fi rfl (by omega), trivial⟩ (ib2 ?_ rfl)⟩
      rw [Sha.out_take (by omega)]
      exact set4 _ 32 _ _ _ _ i (by omega) (by omega) _ _ _ _ (by omega) (by omega) (by omega) (by omega)
     ·skip
      refine wp_exit ?_
      refine then_x ?_
      refine then_x ?_
      refine inb_hit ?_
      refine then_n ?_
      refine wp_seq ?_
      refine reg ?_
      refine plain (y_loadAB rfl z_agg23 z_size23 rfl MM (take_all (by simp [hol]; omega)) (by simp [hol]; omega)) rfl rfl rfl H173 ?_
      clear H173; intro a211 H211
      refine st_store (vs := _) rfl z_size23 rfl rfl (show _ = List.map u8 _ ++ List.replicate _ _ from rfl) (by simp [Value.oneCell']) (by simp [hol]; omega) UU (by decide) rfl rfl H211 ?_
      clear H211; intro wx212 H212
      refine fin ?_
      refine then_n ?_
      refine wp_ret ?_
      -- return 2
      refine retc rfl H212 rfl z_agg23 z_size23 MM (by simp [spl, hol]; omega) ?_
      have hi8 : i = 8 := by omega
      subst hi8
      have hj : 64 * j = m := by omega
      refine ⟨_, [], rfl, ⟨?_, rfl⟩, H212.sep.sub (List.nil_sublist _)⟩
      rw [spl_all (by simp [hol]), List.take_of_length_le (by omega), ← Sha.sum_is s q m hok (by omega) hmd j hj]
      simp

end Go.Proofs.YtlhddgkbbdfacaaDoor.C_Sum

set_option linter.unusedVariables false
set_option linter.unusedSimpArgs false
namespace Go.Proofs.YtlhddgkbbdfacaaDoor.C_Ref
open Go.Sx Go.RowKit

theorem z_call56 : callB Tryd.prog 56 = true := by kernel_rfl
theorem z_size89 : sizeB Tryd.prog 89 = some 1 := by kernel_rfl
theorem z_zero89 : zeroL Tryd.prog 89 = some ([.int .u32 0]) := by kernel_rfl
theorem z_agg89 : aggB Tryd.prog 89 = some false := by kernel_rfl
theorem z_size5 : sizeB Tryd.prog 5 = some 1 := by kernel_rfl
theorem z_zero5 : zeroL Tryd.prog 5 = some ([.int .u8 0]) := by kernel_rfl
theorem z_slice66 : sliceB Tryd.prog 66 = some (5, 1, 1) := by kernel_rfl
theorem z_notint66 : notIntB Tryd.prog 66 = true := by kernel_rfl

set_option maxRecDepth 100000 in
set_option maxHeartbeats 1000000 in
theorem rright (x : BitVec 32) (n : Nat) (h0 : 0 < n) (h1 : n < 32) (w : World) : Calls Tryd.prog 56 #[u32 x, .int .i64 (n : Int)] w (Gives (u32 (Sha.rotr x n)) [] w) := by
 refine enterL (args := [u32 x, .int .i64 (n : Int)]) Tryd.func56 rfl rfl (l := []) (Sep.refl _) ?_
 intro a0 H0
 refine wp_seq ?_
 refine reg ?_
 refine plain (y_assign rfl rfl) rfl rfl rfl H0 ?_
 clear H0; intro a1 H1
 refine fin ?_
 refine then_n ?_
 refine wp_seq ?_
 refine qreg (by kernel_rfl) (by kernel_rfl) H1 ?_
 have F2 := H1.fr
 clear H1
 refine qplain (y_move rfl rfl) rfl rfl rfl F2 ?_
 clear F2; intro a3 H3
 refine qplain (y_move rfl rfl) rfl rfl rfl H3 ?_
 clear H3; intro a4 H4
 refine qplain (y_shr32 rfl rfl rfl (by omega)) rfl rfl rfl H4 ?_
 clear H4; intro a5 H5
 refine qplain (y_move rfl rfl) rfl rfl rfl H5 ?_
 clear H5; intro a6 H6
 refine qplain (y_move rfl rfl) rfl rfl rfl H6 ?_
 clear H6; intro a7 H7
 refine qplain (y_sub rfl rfl rfl (show IntKind.i64.wrap ((32 : Int) - (n : Int)) = ((32 - n : Nat) : Int) by rw [w64 (by omega) (by omega)]; omega)) rfl rfl rfl H7 ?_
 clear H7; intro a8 H8
 refine qplain (y_shl32 rfl rfl rfl (by omega)) rfl rfl rfl H8 ?_
 clear H8; intro a9 H9
 refine qplain (y_add32 rfl rfl rfl) rfl rfl rfl H9 ?_
 clear H9; intro a10 H10
 refine qplain (y_assign rfl rfl) rfl rfl rfl H10 ?_
 clear H10; intro a11 H11
 refine qfin H11 ?_
 clear H11; intro wx12 H12
 refine then_n ?_
 refine wp_ret ?_
 -- return 1
 refine ret1 rfl H12 rfl ?_
 exact ⟨_, [], rfl, ⟨by rw [rot_or x n h0 h1]; rfl, rfl⟩, H12.sep.sub (List.nil_sublist _)⟩
set_option maxRecDepth 100000 in
set_option maxHeartbeats 1000000 in
theorem three (x : BitVec 32) (a b c : Nat) (ha0 : 0 < a) (ha1 : a < 32) (hb0 : 0 < b) (hb1 : b < 32) (hc0 : 0 < c) (hc1 : c < 32) (w : World) : Calls Tryd.prog 57 #[u32 x, .int .i64 (a : Int), .int .i64 (b : Int), .int .i64 (c : Int)] w (Gives (u32 (Sha.rotr x a ^^^ Sha.rotr x b ^^^ Sha.rotr x c)) [] w) := by
 refine enterL (args := [u32 x, .int .i64 (a : Int), .int .i64 (b : Int), .int .i64 (c : Int)]) Tryd.func57 rfl rfl (l := []) (Sep.refl _) ?_
 intro a0 H0
 refine wp_seq ?_
 refine reg ?_
 refine plain (y_assign rfl rfl) rfl rfl rfl H0 ?_
 clear H0; intro a1 H1
 refine fin ?_
 refine then_n ?_
 refine wp_seq ?_
 refine reg ?_
 refine plain (y_move rfl rfl) rfl rfl rfl H1 ?_
 clear H1; intro a2 H2
 refine plain (y_move rfl rfl) rfl rfl rfl H2 ?_
 clear H2; intro a3 H3
 refine st_callg rfl z_call56 rfl rfl rfl rfl H3 (rright x a ha0 ha1 _) ?_
 clear H3; intro a4 wx4 H4
 refine plain (y_move rfl rfl) rfl rfl rfl H4 ?_
 clear H4; intro a5 H5
 refine plain (y_move rfl rfl) rfl rfl rfl H5 ?_
 clear H5; intro a6 H6
 refine st_callg rfl z_call56 rfl rfl rfl rfl H6 (rright x b hb0 hb1 _) ?_
 clear H6; intro a7 wx7 H7
 refine plain (y_xor32 rfl rfl rfl) rfl rfl rfl H7 ?_
 clear H7; intro a8 H8
 refine plain (y_move rfl rfl) rfl rfl rfl H8 ?_
 clear H8; intro a9 H9
 refine plain (y_move rfl rfl) rfl rfl rfl H9 ?_
 clear H9; intro a10 H10
 refine st_callg rfl z_call56 rfl rfl rfl rfl H10 (rright x c hc0 hc1 _) ?_
 clear H10; intro a11 wx11 H11
 refine plain (y_xor32 rfl rfl rfl) rfl rfl rfl H11 ?_
 clear H11; intro a12 H12
 refine plain (y_assign rfl rfl) rfl rfl rfl H12 ?_
 clear H12; intro a13 H13
 refine fin ?_
 refine then_n ?_
 refine wp_ret ?_
 -- return 1
 refine ret1 rfl H13 rfl ?_
 exact ⟨_, [], rfl, ⟨rfl, rfl⟩, H13.sep.sub (List.nil_sublist _)⟩
set_option maxRecDepth 100000 in
set_option maxHeartbeats 2000000 in
theorem word (n : Nat) (hn : n < 64) (w : World) : Calls Tryd.prog 58 #[.int .i64 (n : Int)] w (Gives (u32 (Sha.K.getD n 0)) [] w) := by
 refine enterL (args := [.int .i64 (n : Int)]) Tryd.func58 rfl rfl (l := []) (Sep.refl _) ?_
 intro a0 H0
 refine wp_seq ?_
 refine reg ?_
 refine plain (y_assign rfl rfl) rfl rfl rfl H0 ?_
 clear H0; intro a1 H1
 refine fin ?_
 refine then_n ?_
 refine wp_seq ?_
 refine reg ?_
 refine st_buildSlice1 (xs := [.const (.int .u32 (1116352408)), .const (.int .u32 (1899447441)), .const (.int .u32 (3049323471)), .const (.int .u32 (3921009573)), .const (.int .u32 (961987163)), .const (.int .u32 (1508970993)), .const (.int .u32 (2453635748)), .const (.int .u32 (2870763221)), .const (.int .u32 (3624381080)), .const (.int .u32 (310598401)), .const (.int .u32 (607225278)), .const (.int .u32 (1426881987)), .const (.int .u32 (1925078388)), .const (.int .u32 (2162078206)), .const (.int .u32 (2614888103)), .const (.int .u32 (3248222580)), .const (.int .u32 (3835390401)), .const (.int .u32 (4022224774)), .const (.int .u32 (264347078)), .const (.int .u32 (604807628)), .const (.int .u32 (770255983)), .const (.int .u32 (1249150122)), .const (.int .u32 (1555081692)), .const (.int .u32 (1996064986)), .const (.int .u32 (2554220882)), .const (.int .u32 (2821834349)), .const (.int .u32 (2952996808)), .const (.int .u32 (3210313671)), .const (.int .u32 (3336571891)), .const (.int .u32 (3584528711)), .const (.int .u32 (113926993)), .const (.int .u32 (338241895)), .const (.int .u32 (666307205)), .const (.int .u32 (773529912)), .const (.int .u32 (1294757372)), .const (.int .u32 (1396182291)), .const (.int .u32 (1695183700)), .const (.int .u32 (1986661051)), .const (.int .u32 (2177026350)), .const (.int .u32 (2456956037)), .const (.int .u32 (2730485921)), .const (.int .u32 (2820302411)), .const (.int .u32 (3259730800)), .const (.int .u32 (3345764771)), .const (.int .u32 (3516065817)), .const (.int .u32 (3600352804)), .const (.int .u32 (4094571909)), .const (.int .u32 (275423344)), .const (.int .u32 (430227734)), .const (.int .u32 (506948616)), .const (.int .u32 (659060556)), .const (.int .u32 (883997877)), .const (.int .u32 (958139571)), .const (.int .u32 (1322822218)), .const (.int .u32 (1537002063)), .const (.int .u32 (1747873779)), .const (.int .u32 (1955562222)), .const (.int .u32 (2024104815)), .const (.int .u32 (2227730452)), .const (.int .u32 (2361852424)), .const (.int .u32 (2428436474)), .const (.int .u32 (2756734187)), .const (.int .u32 (3204031479)), .const (.int .u32 (3329325298))]) rfl Tryd.underlying97 z_size89 z_zero89 rfl rfl rfl rfl rfl rfl rfl rfl rfl H1 ?_
 clear H1; intro b2 a2 wx2 H2
 refine plain (y_assign rfl rfl) rfl rfl rfl H2 ?_
 clear H2; intro a3 H3
 refine fin ?_
 refine then_n ?_
 refine wp_seq ?_
 refine reg ?_
 refine plain (y_move rfl rfl) rfl rfl rfl H3 ?_
 clear H3; intro a4 H4
 refine plain (y_move rfl rfl) rfl rfl rfl H4 ?_
 clear H4; intro a5 H5
 refine plain (y_ixR rfl Tryd.underlying97 z_size89 rfl rfl (by omega) (by omega) (rd_blkA MM) (by decide)) rfl rfl rfl H5 ?_
 clear H5; intro a6 H6
 refine plain (y_loadR rfl z_agg89 rfl (rd_blkA MM) (by rw [show (n : Int).toNat * 1 = n by omega]; exact u32_get Sha.K n hn)) rfl rfl rfl H6 ?_
 clear H6; intro a7 H7
 refine plain (y_assign rfl rfl) rfl rfl rfl H7 ?_
 clear H7; intro a8 H8
 refine fin ?_
 refine then_n ?_
 refine wp_ret ?_
 -- return 1
 refine ret1 rfl H8 rfl ?_
 exact ⟨_, [], rfl, ⟨rfl, rfl⟩, H8.sep.sub (List.nil_sublist _)⟩
set_option maxRecDepth 100000 in
set_option maxHeartbeats 2000000 in
theorem padded (s : List UInt8) (hs : s.length ≤ 140737488355000) (w : World) : Calls Tryd.prog 55 #[str s] w (Post [] w (fun u l => l = [It.row 5 1 u (Sha.pad s).length ((Sha.pad s).map u8)])) := by
 refine enterL (args := [str s]) Tryd.func55 rfl rfl (l := []) (Sep.refl _) ?_
 intro a0 H0
 refine wp_seq ?_
 refine reg ?_
 refine plain (y_assign rfl rfl) rfl rfl rfl H0 ?_
 clear H0; intro a1 H1
 refine fin ?_
 refine then_n ?_
 refine wp_seq ?_
 refine reg ?_
 refine plain (y_move rfl rfl) rfl rfl rfl H1 ?_
 clear H1; intro a2 H2
 refine st_strb rfl Tryd.underlying9 Tryd.underlying66 Tryd.underlying5 rfl (by unfold maxLen; omega) rfl rfl rfl H2 ?_
 clear H2; intro v3 a3 wx3 H3
 refine plain (y_assign rfl rfl) rfl rfl rfl H3 ?_
 clear H3; intro a4 H4
 refine fin ?_
 refine then_n ?_
 refine wp_seq ?_
 refine reg ?_
 refine plain (y_move rfl rfl) rfl rfl rfl H4 ?_
 clear H4; intro a5 H5
 refine st_buildSlice1 (xs := [.const (.int .u8 (128))]) rfl Tryd.underlying66 z_size5 z_zero5 rfl rfl rfl rfl rfl rfl rfl rfl rfl H5 ?_
 clear H5; intro b6 a6 wx6 H6
 refine st_append rfl z_slice66 z_notint66 rfl rfl (fun _ => UU) (fun w hs => Src.slice ((rd_blkA MM) w hs) rfl (by simp [Value.oneCell'])) (by unfold maxLen; omega) (by omega) rfl rfl rfl H6 ?_
 clear H6; intro v7 a7 wx7 hnil7 H7
 refine plain (y_assign rfl rfl) rfl rfl rfl H7 ?_
 clear H7; intro a8 H8
 refine fin ?_
 refine then_n ?_
 refine wp_seq ?_
 refine wp_block ?_
 have hzz : Sha.zeros s.length = (119 - s.length % 64) % 64 := rfl
 refine loop (ι := Nat × Value) (fun x => [(0, str s), (3, x.2)]) (fun x => [It.row 5 1 x.2 (s.length + 1 + x.1) ((s ++ [128] ++ List.replicate x.1 0).map u8)]) (fun x => x.1 ≤ Sha.zeros s.length) (fun x => Sha.zeros s.length - x.1) ((0, v7)) (Nat.zero_le _) ((H8.drop (List.Sublist.cons _ (List.Sublist.refl _))).weak ⟨rfl, rfl, trivial⟩ (ir (by simp) (by simp))) ?_
 clear H8; intro x a9 wx9 hok9 H9
 obtain ⟨z, v⟩ := x
 dsimp only at hok9 H9
 have hok := hok9
 obtain ⟨A0, c0, hv0, hR0, hm0⟩ := row_shape (v := v) H9.sep MM
 subst hv0
 refine wp_seq ?_
 refine wp_seq ?_
 refine reg ?_
 refine plain (y_move rfl rfl) rfl rfl rfl H9 ?_
 clear H9; intro a10 H10
 refine plain (y_len rfl Tryd.underlying66 rfl) rfl rfl rfl H10 ?_
 clear H10; intro a11 H11
 refine plain (y_rem rfl rfl rfl (by first | decide | omega) (Int.tmod_eq_emod_of_nonneg (by omega))) rfl rfl rfl H11 ?_
 clear H11; intro a12 H12
 refine plain (y_neq rfl rfl rfl) rfl rfl rfl H12 ?_
 clear H12; intro a13 H13
 refine fin ?_
 refine then_n ?_
 refine cnd_d H13 rfl (fun hc14 => ?_) (fun hc14 => ?_) -- cond 1
 ·skip
  refine wp_skip ?_
  refine then_n ?_
  refine wp_block ?_
  refine reg ?_
  refine plain (y_move rfl rfl) rfl rfl rfl H13 ?_
  clear H13; intro a15 H15
  refine st_buildSlice1 (xs := [.const (.int .u8 (0))]) rfl Tryd.underlying66 z_size5 z_zero5 rfl rfl rfl rfl rfl rfl rfl rfl rfl H15 ?_
  clear H15; intro b16 a16 wx16 H16
  refine st_append rfl z_slice66 z_notint66 rfl rfl (fun _ => UU) (fun w hs => Src.slice ((rd_blkA MM) w hs) rfl (by simp [Value.oneCell'])) (by unfold maxLen; omega) (by omega) rfl rfl rfl H16 ?_
  clear H16; intro v17 a17 wx17 hnil17 H17
  refine plain (y_assign rfl rfl) rfl rfl rfl H17 ?_
  clear H17; intro a18 H18
  refine fin ?_
  refine inb_n ?_
  refine then_n ?_
  refine ⟨(z + 1, v17), by dsimp only; omega, by dsimp only; omega, (H18.drop (List.Sublist.cons _ (List.Sublist.refl _))).weak ⟨rfl, rfl, trivial⟩ (ir (by first | (simp; omega) | simp) (by simp [List.replicate_succ']))⟩
 ·skip
  refine wp_exit ?_
  refine then_x ?_
  refine then_x ?_
  refine inb_hit ?_
  refine then_n ?_
  refine wp_seq ?_
  refine reg ?_
  refine plain (y_move rfl rfl) rfl rfl rfl H13 ?_
  clear H13; intro a19 H19
  refine plain (y_slen rfl Tryd.underlying9 rfl) rfl rfl rfl H19 ?_
  clear H19; intro a20 H20
  refine plain (y_conv rfl Tryd.underlying3 Tryd.underlying94 rfl (by first | exact wu64 (by omega) (by omega) | rfl)) rfl rfl rfl H20 ?_
  clear H20; intro a21 H21
  refine plain (y_mul rfl rfl rfl (by first | exact wu64 (by omega) (by omega) | rfl)) rfl rfl rfl H21 ?_
  clear H21; intro a22 H22
  refine plain (y_assign rfl rfl) rfl rfl rfl H22 ?_
  clear H22; intro a23 H23
  refine fin ?_
  refine then_n ?_
  refine wp_seq ?_
  refine wp_seq ?_
  refine reg ?_
  refine plain (y_assign rfl rfl) rfl rfl rfl H23 ?_
  clear H23; intro a24 H24
  refine fin ?_
  refine then_n ?_
  refine wp_block ?_
  refine loop (ι := Nat × Value) (fun x => [(3, x.2), (4, .int .u64 ((8 * s.length : Nat) : Int)), (5, .int .i64 (7 - (x.1 : Int)))]) (fun x => [It.row 5 1 x.2 (s.length + 1 + Sha.zeros s.length + x.1) (((s ++ [128] ++ List.replicate (Sha.zeros s.length) 0) ++ (Sha.be (8 * s.length)).take x.1).map u8)]) (fun x => x.1 ≤ 8) (fun x => 8 - x.1) ((0, .slice A0 (s.length + 1 + z) c0)) (Nat.zero_le _) (H24.weak ⟨rfl, fi rfl (by omega), rfl, trivial⟩ (by rw [show Sha.zeros s.length = z by omega]; exact ir (by simp) (by simp))) ?_
  clear H24; intro x a25 wx25 hok25 H25
  obtain ⟨k, v⟩ := x
  dsimp only at hok25 H25
  have hok2 := hok25
  obtain ⟨A1, c1, hv1, hR1, hm1⟩ := row_shape (v := v) H25.sep MM
  subst hv1
  refine wp_seq ?_
  refine wp_seq ?_
  refine reg ?_
  refine plain (y_move rfl rfl) rfl rfl rfl H25 ?_
  clear H25; intro a26 H26
  refine plain (y_geq rfl rfl rfl) rfl rfl rfl H26 ?_
  clear H26; intro a27 H27
  refine fin ?_
  refine then_n ?_
  refine cnd_d H27 rfl (fun hc28 => ?_) (fun hc28 => ?_) -- cond 2
  ·skip
   refine wp_skip ?_
   refine then_n ?_
   refine wp_seq ?_
   refine wp_block ?_
   refine reg ?_
   refine plain (y_move rfl rfl) rfl rfl rfl H27 ?_
   clear H27; intro a29 H29
   refine plain (y_move rfl rfl) rfl rfl rfl H29 ?_
   clear H29; intro a30 H30
   refine plain (y_move rfl rfl) rfl rfl rfl H30 ?_
   clear H30; intro a31 H31
   refine plain (y_mul rfl rfl rfl (by first | exact w64 (by omega) (by omega) | rfl)) rfl rfl rfl H31 ?_
   clear H31; intro a32 H32
   refine plain (y_shr rfl rfl rfl (by omega) (show Int.fdiv ((8 * s.length : Nat) : Int) (2 ^ (min ((8 * (7 - (k : Int))).toNat) IntKind.u64.bits)) = ((8 * s.length / 256 ^ (7 - k) : Nat) : Int) by rw [show (8 * (7 - (k : Int))) = 8 * ((7 - k : Nat) : Int) by omega]; exact shrU _ (7 - k) (by omega))) rfl rfl rfl H32 ?_
   clear H32; intro a33 H33
   refine plain (y_conv rfl Tryd.underlying94 Tryd.underlying5 rfl (wu8_nat _)) rfl rfl rfl H33 ?_
   clear H33; intro a34 H34
   refine st_buildSlice1 (xs := [.tmp 31]) rfl Tryd.underlying66 z_size5 z_zero5 rfl rfl rfl rfl rfl rfl rfl rfl rfl H34 ?_
   clear H34; intro b35 a35 wx35 H35
   refine st_append rfl z_slice66 z_notint66 rfl rfl (fun _ => UU) (fun w hs => Src.slice ((rd_blkA MM) w hs) rfl (by simp [Value.oneCell'])) (by unfold maxLen; omega) (by omega) rfl rfl rfl H35 ?_
   clear H35; intro v36 a36 wx36 hnil36 H36
   refine plain (y_assign rfl rfl) rfl rfl rfl H36 ?_
   clear H36; intro a37 H37
   refine fin ?_
   refine inb_n ?_
   refine then_n ?_
   refine reg ?_
   refine plain (y_move rfl rfl) rfl rfl rfl H37 ?_
   clear H37; intro a38 H38
   refine plain (y_sub rfl rfl rfl (by first | exact w64 (by omega) (by omega) | rfl)) rfl rfl rfl H38 ?_
   clear H38; intro a39 H39
   refine plain (y_assign rfl rfl) rfl rfl rfl H39 ?_
   clear H39; intro a40 H40
   refine fin ?_
   refine then_n ?_
   refine ⟨(k + 1, v36), by dsimp only; omega, by dsimp only; omega, (H40.drop (List.Sublist.cons _ (List.Sublist.refl _))).weak ⟨rfl, rfl, fi rfl (by dsimp only; omega), trivial⟩ (ir (by first | (simp; omega) | simp) (by rw [Sha.be_take (by omega)]; simp))⟩
  ·skip
   refine wp_exit ?_
   refine then_x ?_
   refine then_x ?_
   refine inb_hit ?_
   refine then_n ?_
   refine wp_seq ?_
   refine reg ?_
   refine plain (y_move rfl rfl) rfl rfl rfl H27 ?_
   clear H27; intro a41 H41
   refine plain (y_assign rfl rfl) rfl rfl rfl H41 ?_
   clear H41; intro a42 H42
   refine fin ?_
   refine then_n ?_
   refine wp_ret ?_
   -- return 1
   refine ret1 rfl H42 rfl ?_
   have hk8 : k = 8 := by omega
   subst hk8
   refine ⟨_, _, rfl, ?_, H42.sep⟩
   have e1 : s.length + 1 + Sha.zeros s.length + 8 = (Sha.pad s).length := by rw [Sha.pad_length]; omega
   have e2 : s ++ [128] ++ List.replicate (Sha.zeros s.length) 0 ++ (Sha.be (8 * s.length)).take 8 = Sha.pad s := by rw [List.take_of_length_le (by rw [Sha.be_length]; omega)]; rfl
   show [_] = [_]
   rw [e1, e2]

end Go.Proofs.YtlhddgkbbdfacaaDoor.C_Ref

set_option linter.unusedVariables false
set_option linter.unusedSimpArgs false
namespace Go.Proofs.YtlhddgkbbdfacaaDoor.C_RSum
open Go.Sx Go.RowKit Go.Proofs.YtlhddgkbbdfacaaDoor.C_Ref

theorem z_zero23 : zeroL Tryd.prog 23 = some (List.replicate 32 (.int .u8 0)) := by kernel_rfl
theorem z_call55 : callB Tryd.prog 55 = true := by kernel_rfl
theorem z_size89 : sizeB Tryd.prog 89 = some 1 := by kernel_rfl
theorem z_zero89 : zeroL Tryd.prog 89 = some ([.int .u32 0]) := by kernel_rfl
theorem z_slice97 : sliceB Tryd.prog 97 = some (89, 1, 4) := by kernel_rfl
theorem z_zval89 : (Tryd.prog.info? 89).bind (·.zero) = some (.int .u32 0) := by kernel_rfl
theorem z_size5 : sizeB Tryd.prog 5 = some 1 := by kernel_rfl
theorem z_agg5 : aggB Tryd.prog 5 = some false := by kernel_rfl
theorem z_agg89 : aggB Tryd.prog 89 = some false := by kernel_rfl
theorem z_call56 : callB Tryd.prog 56 = true := by kernel_rfl
theorem z_notint97 : notIntB Tryd.prog 97 = true := by kernel_rfl
theorem z_call57 : callB Tryd.prog 57 = true := by kernel_rfl
theorem z_call58 : callB Tryd.prog 58 = true := by kernel_rfl
theorem z_size23 : sizeB Tryd.prog 23 = some 32 := by kernel_rfl
theorem z_agg23 : aggB Tryd.prog 23 = some true := by kernel_rfl

set_option maxRecDepth 100000 in
set_option maxHeartbeats 8000000 in
theorem rsum (s : List UInt8) (hs : s.length ≤ 140737488355000) (w : World) : Calls Tryd.prog 38 #[str s] w (Gives (.agg ((Sha.sum s).map u8).toArray) [] w) := by
 have hpm := Sha.pad_mod s
 have hpl := Sha.pad_length s
 have hzz : Sha.zeros s.length ≤ 63 := by unfold Sha.zeros; omega
 refine enterL (args := [str s]) Tryd.func38 rfl rfl (l := []) (Sep.refl _) ?_
 intro a0 H0
 refine wp_seq ?_
 refine reg ?_
 refine st_alloc rfl z_zero23 rfl rfl rfl H0 ?_
 clear H0; intro b1 a1 wx1 H1
 refine fin ?_
 refine then_n ?_
 refine wp_seq ?_
 refine reg ?_
 refine plain (y_move rfl rfl) rfl rfl rfl H1 ?_
 clear H1; intro a2 H2
 refine st_call rfl z_call55 rfl rfl rfl rfl H2 (padded s hs _) ?_
 clear H2; intro v3 l3 a3 wx3 hf3 H3
 obtain rfl := hf3
 simp only [List.cons_append, List.nil_append] at H3
 obtain ⟨Ap, cp, hv3, hRp, hmp⟩ := row_shape (v := v3) H3.sep MM
 subst hv3
 refine plain (y_assign rfl rfl) rfl rfl rfl H3 ?_
 clear H3; intro a4 H4
 refine fin ?_
 refine then_n ?_
 refine wp_seq ?_
 refine reg ?_
 refine st_buildSlice1 (xs := [.const (.int .u32 (1779033703)), .const (.int .u32 (3144134277)), .const (.int .u32 (1013904242)), .const (.int .u32 (2773480762)), .const (.int .u32 (1359893119)), .const (.int .u32 (2600822924)), .const (.int .u32 (528734635)), .const (.int .u32 (1541459225))]) rfl Tryd.underlying97 z_size89 z_zero89 rfl rfl rfl rfl rfl rfl rfl rfl rfl H4 ?_
 clear H4; intro b5 a5 wx5 H5
 refine plain (y_assign rfl rfl) rfl rfl rfl H5 ?_
 clear H5; intro a6 H6
 refine fin ?_
 refine then_n ?_
 refine wp_seq ?_
 refine wp_seq ?_
 refine reg ?_
 refine plain (y_assign rfl rfl) rfl rfl rfl H6 ?_
 clear H6; intro a7 H7
 refine fin ?_
 refine then_n ?_
 refine wp_block ?_
 refine loop (ι := Nat) (fun n => [(2, .pointer (some ⟨b1, 0, none⟩)), (3, .slice Ap (Sha.pad s).length cp), (4, .slice (some ⟨b5, 0, none⟩) 8 8), (5, .int .i64 ((64 * n : Nat) : Int))]) (fun n => [It.blk b5 89 ((Sha.blocks Sha.H0 (Sha.pad s) n).map u32), It.row 5 1 (.slice Ap (Sha.pad s).length cp) (Sha.pad s).length ((Sha.pad s).map u8), It.blk b1 23 (List.replicate 32 (.int .u8 0))]) (fun n => 64 * n ≤ (Sha.pad s).length) (fun n => (Sha.pad s).length - 64 * n) (0) (by omega) (H7.weak ⟨rfl, rfl, rfl, rfl, trivial⟩ rfl) ?_
 clear H7; intro n a8 wx8 hok8 H8
 have hok := hok8
 have hvl := Sha.blocks_length (s := Sha.H0) rfl (Sha.pad s) n
 refine wp_seq ?_
 refine wp_seq ?_
 refine reg ?_
 refine plain (y_move rfl rfl) rfl rfl rfl H8 ?_
 clear H8; intro a9 H9
 refine plain (y_move rfl rfl) rfl rfl rfl H9 ?_
 clear H9; intro a10 H10
 refine plain (y_len rfl Tryd.underlying66 rfl) rfl rfl rfl H10 ?_
 clear H10; intro a11 H11
 refine plain (y_lss rfl rfl rfl) rfl rfl rfl H11 ?_
 clear H11; intro a12 H12
 refine fin ?_
 refine then_n ?_
 refine cnd_d H12 rfl (fun hc13 => ?_) (fun hc13 => ?_) -- cond 1
 ·skip
  refine wp_skip ?_
  refine then_n ?_
  refine wp_seq ?_
  refine wp_block ?_
  refine wp_seq ?_
  refine reg ?_
  refine st_make rfl z_slice97 rfl rfl (by decide) (by decide) z_zval89 rfl rfl rfl H12 ?_
  clear H12; intro b14 a14 wx14 H14
  refine plain (y_assign rfl rfl) rfl rfl rfl H14 ?_
  clear H14; intro a15 H15
  refine fin ?_
  refine then_n ?_
  refine wp_seq ?_
  refine wp_seq ?_
  refine reg ?_
  refine plain (y_assign rfl rfl) rfl rfl rfl H15 ?_
  clear H15; intro a16 H16
  refine fin ?_
  refine then_n ?_
  refine wp_block ?_
  refine loop (ι := Nat) (fun t => [(2, .pointer (some ⟨b1, 0, none⟩)), (3, .slice Ap (Sha.pad s).length cp), (4, .slice (some ⟨b5, 0, none⟩) 8 8), (5, .int .i64 ((64 * n : Nat) : Int)), (6, .slice (some ⟨b14, 0, none⟩) 64 64), (7, .int .i64 (t : Int))]) (fun t => [It.blk b14 89 ((Sha.sched (((Sha.pad s).drop (64 * n)).take 64) t).map u32 ++ List.replicate (64 - t) (.int .u32 0)), It.blk b5 89 ((Sha.blocks Sha.H0 (Sha.pad s) n).map u32), It.row 5 1 (.slice Ap (Sha.pad s).length cp) (Sha.pad s).length ((Sha.pad s).map u8), It.blk b1 23 (List.replicate 32 (.int .u8 0))]) (fun t => t ≤ 64) (fun t => 64 - t) (0) (Nat.zero_le _) (H16.weak ⟨rfl, rfl, rfl, rfl, rfl, rfl, trivial⟩ (ib2 (made_u32 64) rfl)) ?_
  clear H16; intro t a17 wx17 hok17 H17
  have hok2 := hok17
  have hsl := Sha.sched_length (((Sha.pad s).drop (64 * n)).take 64) t
  refine wp_seq ?_
  refine wp_seq ?_
  refine reg ?_
  refine plain (y_move rfl rfl) rfl rfl rfl H17 ?_
  clear H17; intro a18 H18
  refine plain (y_lss rfl rfl rfl) rfl rfl rfl H18 ?_
  clear H18; intro a19 H19
  refine fin ?_
  refine then_n ?_
  refine cnd_d H19 rfl (fun hc20 => ?_) (fun hc20 => ?_) -- cond 2
  ·skip
   refine wp_skip ?_
   refine then_n ?_
   refine wp_seq ?_
   refine wp_block ?_
   refine wp_seq ?_
   refine reg ?_
   refine plain (y_move rfl rfl) rfl rfl rfl H19 ?_
   clear H19; intro a21 H21
   refine plain (y_lss rfl rfl rfl) rfl rfl rfl H21 ?_
   clear H21; intro a22 H22
   refine fin ?_
   refine then_n ?_
   refine cnd_d H22 rfl (fun hc23 => ?_) (fun hc23 => ?_) -- cond 3
   ·skip
    refine wp_seq ?_
    refine reg ?_
    refine plain (y_move rfl rfl) rfl rfl rfl H22 ?_
    clear H22; intro a24 H24
    refine plain (y_move rfl rfl) rfl rfl rfl H24 ?_
    clear H24; intro a25 H25
    refine plain (y_mul rfl rfl rfl (by first | exact w64 (by omega) (by omega) | rfl)) rfl rfl rfl H25 ?_
    clear H25; intro a26 H26
    refine plain (y_add rfl rfl rfl (by first | exact w64 (by omega) (by omega) | rfl)) rfl rfl rfl H26 ?_
    clear H26; intro a27 H27
    refine plain (y_assign rfl rfl) rfl rfl rfl H27 ?_
    clear H27; intro a28 H28
    refine fin ?_
    refine then_n ?_
    refine treg 32 (by kernel_rfl) (by kernel_rfl) H28 ?_
    clear H28; intro wx29 H29
    refine tplain (y_move rfl rfl) rfl rfl rfl H29 ?_
    clear H29; intro a30 H30
    refine tplain (y_move rfl rfl) rfl rfl rfl H30 ?_
    clear H30; intro a31 H31
    refine tplain (y_move rfl rfl) rfl rfl rfl H31 ?_
    clear H31; intro a32 H32
    refine tplain (y_move rfl rfl) rfl rfl rfl H32 ?_
    clear H32; intro a33 H33
    refine tplain (y_ixR rfl Tryd.underlying66 z_size5 rfl rfl (by omega) (by omega) (rd_row MM) (by first | (rw [List.length_map]; omega) | (simp; omega))) rfl rfl rfl H33 ?_
    clear H33; intro a34 H34
    refine tplain (y_loadR rfl z_agg5 rfl (rd_row MM) (by rw [show (((64 * n : Nat) : Int) + 4 * (t : Int)).toNat * 1 = 64 * n + (4 * t) by omega]; exact map_get u8 _ _ 0 (by omega))) rfl rfl rfl H34 ?_
    clear H34; intro a35 H35
    refine tplain (y_wide rfl Tryd.underlying5 Tryd.underlying89 rfl) rfl rfl rfl H35 ?_
    clear H35; intro a36 H36
    refine tplain (y_mul32 rfl rfl (k32 rfl 16777216 (by decide))) rfl rfl rfl H36 ?_
    clear H36; intro a37 H37
    refine tplain (y_move rfl rfl) rfl rfl rfl H37 ?_
    clear H37; intro a38 H38
    refine tplain (y_move rfl rfl) rfl rfl rfl H38 ?_
    clear H38; intro a39 H39
    refine tplain (y_add rfl rfl rfl (by first | exact w64 (by omega) (by omega) | rfl)) rfl rfl rfl H39 ?_
    clear H39; intro a40 H40
    refine tplain (y_ixR rfl Tryd.underlying66 z_size5 rfl rfl (by omega) (by omega) (rd_row MM) (by first | (rw [List.length_map]; omega) | (simp; omega))) rfl rfl rfl H40 ?_
    clear H40; intro a41 H41
    refine tplain (y_loadR rfl z_agg5 rfl (rd_row MM) (by rw [show (((64 * n : Nat) : Int) + 4 * (t : Int) + 1).toNat * 1 = 64 * n + (4 * t + 1) by omega]; exact map_get u8 _ _ 0 (by omega))) rfl rfl rfl H41 ?_
    clear H41; intro a42 H42
    refine tplain (y_wide rfl Tryd.underlying5 Tryd.underlying89 rfl) rfl rfl rfl H42 ?_
    clear H42; intro a43 H43
    refine tplain (y_mul32 rfl rfl (k32 rfl 65536 (by decide))) rfl rfl rfl H43 ?_
    clear H43; intro a44 H44
    refine tplain (y_add32 rfl rfl rfl) rfl rfl rfl H44 ?_
    clear H44; intro a45 H45
    refine tplain (y_move rfl rfl) rfl rfl rfl H45 ?_
    clear H45; intro a46 H46
    refine tplain (y_move rfl rfl) rfl rfl rfl H46 ?_
    clear H46; intro a47 H47
    refine tplain (y_add rfl rfl rfl (by first | exact w64 (by omega) (by omega) | rfl)) rfl rfl rfl H47 ?_
    clear H47; intro a48 H48
    refine tplain (y_ixR rfl Tryd.underlying66 z_size5 rfl rfl (by omega) (by omega) (rd_row MM) (by first | (rw [List.length_map]; omega) | (simp; omega))) rfl rfl rfl H48 ?_
    clear H48; intro a49 H49
    refine tplain (y_loadR rfl z_agg5 rfl (rd_row MM) (by rw [show (((64 * n : Nat) : Int) + 4 * (t : Int) + 2).toNat * 1 = 64 * n + (4 * t + 2) by omega]; exact map_get u8 _ _ 0 (by omega))) rfl rfl rfl H49 ?_
    clear H49; intro a50 H50
    refine tplain (y_wide rfl Tryd.underlying5 Tryd.underlying89 rfl) rfl rfl rfl H50 ?_
    clear H50; intro a51 H51
    refine tplain (y_mul32 rfl rfl (k32 rfl 256 (by decide))) rfl rfl rfl H51 ?_
    clear H51; intro a52 H52
    refine tplain (y_add32 rfl rfl rfl) rfl rfl rfl H52 ?_
    clear H52; intro a53 H53
    refine tplain (y_move rfl rfl) rfl rfl rfl H53 ?_
    clear H53; intro a54 H54
    refine tplain (y_move rfl rfl) rfl rfl rfl H54 ?_
    clear H54; intro a55 H55
    refine tplain (y_add rfl rfl rfl (by first | exact w64 (by omega) (by omega) | rfl)) rfl rfl rfl H55 ?_
    clear H55; intro a56 H56
    refine tplain (y_ixR rfl Tryd.underlying66 z_size5 rfl rfl (by omega) (by omega) (rd_row MM) (by first | (rw [List.length_map]; omega) | (simp; omega))) rfl rfl rfl H56 ?_
    clear H56; intro a57 H57
    refine tplain (y_loadR rfl z_agg5 rfl (rd_row MM) (by rw [show (((64 * n : Nat) : Int) + 4 * (t : Int) + 3).toNat * 1 = 64 * n + (4 * t + 3) by omega]; exact map_get u8 _ _ 0 (by omega))) rfl rfl rfl H57 ?_
    clear H57; intro a58 H58
    refine tplain (y_wide rfl Tryd.underlying5 Tryd.underlying89 rfl) rfl rfl rfl H58 ?_
    clear H58; intro a59 H59
    refine tplain (y_add32 rfl rfl rfl) rfl rfl rfl H59 ?_
    clear H59; intro a60 H60
    refine tplain (y_ixL rfl Tryd.underlying97 z_size89 rfl rfl (by omega) (by omega) rfl) rfl rfl rfl H60 ?_
    clear H60; intro a61 H61
    refine tfin ?_
    refine st_store1 rfl z_size89 rfl rfl rfl UU (by first | decide | (simp; omega)) rfl rfl H61 ?_
    clear H61; intro wx62 H62
    refine fin ?_
    refine inb_n ?_
    refine then_n ?_
    refine reg ?_
    refine plain (y_move rfl rfl) rfl rfl rfl H62 ?_
    clear H62; intro a63 H63
    refine plain (y_add rfl rfl rfl (by first | exact w64 (by omega) (by omega) | rfl)) rfl rfl rfl H63 ?_
    clear H63; intro a64 H64
    refine plain (y_assign rfl rfl) rfl rfl rfl H64 ?_
    clear H64; intro a65 H65
    refine fin ?_
    refine then_n ?_
    refine ⟨t + 1, by omega, by omega, H65.weak ⟨rfl, rfl, rfl, rfl, rfl, fi rfl (by omega), trivial⟩ (ib2 ?_ rfl)⟩
    rw [Sha.wd_mul, Sha.sched_wd _ (by omega), Sha.wd, Sha.blk_get _ _ _ (by omega), Sha.blk_get _ _ _ (by omega), Sha.blk_get _ _ _ (by omega), Sha.blk_get _ _ _ (by omega)]
    exact grow_set _ _ t 64 _ hsl (by omega)
   ·skip
    refine wp_seq ?_
    refine qreg (by kernel_rfl) (by kernel_rfl) H22 ?_
    have F66 := H22.fr
    clear H22
    refine qplain (y_move rfl rfl) rfl rfl rfl F66 ?_
    clear F66; intro a67 H67
    refine qplain (y_move rfl rfl) rfl rfl rfl H67 ?_
    clear H67; intro a68 H68
    refine qplain (y_sub rfl rfl rfl (by first | exact w64 (by omega) (by omega) | rfl)) rfl rfl rfl H68 ?_
    clear H68; intro a69 H69
    refine qplain (y_ixL rfl Tryd.underlying97 z_size89 rfl rfl (by omega) (by omega) rfl) rfl rfl rfl H69 ?_
    clear H69; intro a70 H70
    refine qplain (y_loadB rfl z_agg89 rfl MM (by rw [show 0 + ((t : Int) - 15).toNat * 1 = t - 15 by omega]; exact grow_get _ _ _ (by omega))) rfl rfl rfl H70 ?_
    clear H70; intro a71 H71
    refine qcallg rfl z_call56 rfl rfl rfl rfl H71 (fun w hs => (rright _ 7 (by decide) (by decide) _)) ?_
    clear H71; intro a72 H72
    refine qplain (y_move rfl rfl) rfl rfl rfl H72 ?_
    clear H72; intro a73 H73
    refine qplain (y_move rfl rfl) rfl rfl rfl H73 ?_
    clear H73; intro a74 H74
    refine qplain (y_sub rfl rfl rfl (by first | exact w64 (by omega) (by omega) | rfl)) rfl rfl rfl H74 ?_
    clear H74; intro a75 H75
    refine qplain (y_ixL rfl Tryd.underlying97 z_size89 rfl rfl (by omega) (by omega) rfl) rfl rfl rfl H75 ?_
    clear H75; intro a76 H76
    refine qplain (y_loadB rfl z_agg89 rfl MM (by rw [show 0 + ((t : Int) - 15).toNat * 1 = t - 15 by omega]; exact grow_get _ _ _ (by omega))) rfl rfl rfl H76 ?_
    clear H76; intro a77 H77
    refine qcallg rfl z_call56 rfl rfl rfl rfl H77 (fun w hs => (rright _ 18 (by decide) (by decide) _)) ?_
    clear H77; intro a78 H78
    refine qplain (y_xor32 rfl rfl rfl) rfl rfl rfl H78 ?_
    clear H78; intro a79 H79
    refine qplain (y_move rfl rfl) rfl rfl rfl H79 ?_
    clear H79; intro a80 H80
    refine qplain (y_move rfl rfl) rfl rfl rfl H80 ?_
    clear H80; intro a81 H81
    refine qplain (y_sub rfl rfl rfl (by first | exact w64 (by omega) (by omega) | rfl)) rfl rfl rfl H81 ?_
    clear H81; intro a82 H82
    refine qplain (y_ixL rfl Tryd.underlying97 z_size89 rfl rfl (by omega) (by omega) rfl) rfl rfl rfl H82 ?_
    clear H82; intro a83 H83
    refine qplain (y_loadB rfl z_agg89 rfl MM (by rw [show 0 + ((t : Int) - 15).toNat * 1 = t - 15 by omega]; exact grow_get _ _ _ (by omega))) rfl rfl rfl H83 ?_
    clear H83; intro a84 H84
    refine qplain (y_shr32 (k := 3) rfl rfl rfl (by omega)) rfl rfl rfl H84 ?_
    clear H84; intro a85 H85
    refine qplain (y_xor32 rfl rfl rfl) rfl rfl rfl H85 ?_
    clear H85; intro a86 H86
    refine qplain (y_assign rfl rfl) rfl rfl rfl H86 ?_
    clear H86; intro a87 H87
    refine qfin H87 ?_
    clear H87; intro wx88 H88
    refine then_n ?_
    refine wp_seq ?_
    refine qreg (by kernel_rfl) (by kernel_rfl) H88 ?_
    have F89 := H88.fr
    clear H88
    refine qplain (y_move rfl rfl) rfl rfl rfl F89 ?_
    clear F89; intro a90 H90
    refine qplain (y_move rfl rfl) rfl rfl rfl H90 ?_
    clear H90; intro a91 H91
    refine qplain (y_sub rfl rfl rfl (by first | exact w64 (by omega) (by omega) | rfl)) rfl rfl rfl H91 ?_
    clear H91; intro a92 H92
    refine qplain (y_ixL rfl Tryd.underlying97 z_size89 rfl rfl (by omega) (by omega) rfl) rfl rfl rfl H92 ?_
    clear H92; intro a93 H93
    refine qplain (y_loadB rfl z_agg89 rfl MM (by rw [show 0 + ((t : Int) - 2).toNat * 1 = t - 2 by omega]; exact grow_get _ _ _ (by omega))) rfl rfl rfl H93 ?_
    clear H93; intro a94 H94
    refine qcallg rfl z_call56 rfl rfl rfl rfl H94 (fun w hs => (rright _ 17 (by decide) (by decide) _)) ?_
    clear H94; intro a95 H95
    refine qplain (y_move rfl rfl) rfl rfl rfl H95 ?_
    clear H95; intro a96 H96
    refine qplain (y_move rfl rfl) rfl rfl rfl H96 ?_
    clear H96; intro a97 H97
    refine qplain (y_sub rfl rfl rfl (by first | exact w64 (by omega) (by omega) | rfl)) rfl rfl rfl H97 ?_
    clear H97; intro a98 H98
    refine qplain (y_ixL rfl Tryd.underlying97 z_size89 rfl rfl (by omega) (by omega) rfl) rfl rfl rfl H98 ?_
    clear H98; intro a99 H99
    refine qplain (y_loadB rfl z_agg89 rfl MM (by rw [show 0 + ((t : Int) - 2).toNat * 1 = t - 2 by omega]; exact grow_get _ _ _ (by omega))) rfl rfl rfl H99 ?_
    clear H99; intro a100 H100
    refine qcallg rfl z_call56 rfl rfl rfl rfl H100 (fun w hs => (rright _ 19 (by decide) (by decide) _)) ?_
    clear H100; intro a101 H101
    refine qplain (y_xor32 rfl rfl rfl) rfl rfl rfl H101 ?_
    clear H101; intro a102 H102
    refine qplain (y_move rfl rfl) rfl rfl rfl H102 ?_
    clear H102; intro a103 H103
    refine qplain (y_move rfl rfl) rfl rfl rfl H103 ?_
    clear H103; intro a104 H104
    refine qplain (y_sub rfl rfl rfl (by first | exact w64 (by omega) (by omega) | rfl)) rfl rfl rfl H104 ?_
    clear H104; intro a105 H105
    refine qplain (y_ixL rfl Tryd.underlying97 z_size89 rfl rfl (by omega) (by omega) rfl) rfl rfl rfl H105 ?_
    clear H105; intro a106 H106
    refine qplain (y_loadB rfl z_agg89 rfl MM (by rw [show 0 + ((t : Int) - 2).toNat * 1 = t - 2 by omega]; exact grow_get _ _ _ (by omega))) rfl rfl rfl H106 ?_
    clear H106; intro a107 H107
    refine qplain (y_shr32 (k := 10) rfl rfl rfl (by omega)) rfl rfl rfl H107 ?_
    clear H107; intro a108 H108
    refine qplain (y_xor32 rfl rfl rfl) rfl rfl rfl H108 ?_
    clear H108; intro a109 H109
    refine qplain (y_assign rfl rfl) rfl rfl rfl H109 ?_
    clear H109; intro a110 H110
    refine qfin H110 ?_
    clear H110; intro wx111 H111
    refine then_n ?_
    refine treg 18 (by kernel_rfl) (by kernel_rfl) H111 ?_
    clear H111; intro wx112 H112
    refine tplain (y_move rfl rfl) rfl rfl rfl H112 ?_
    clear H112; intro a113 H113
    refine tplain (y_move rfl rfl) rfl rfl rfl H113 ?_
    clear H113; intro a114 H114
    refine tplain (y_move rfl rfl) rfl rfl rfl H114 ?_
    clear H114; intro a115 H115
    refine tplain (y_move rfl rfl) rfl rfl rfl H115 ?_
    clear H115; intro a116 H116
    refine tplain (y_move rfl rfl) rfl rfl rfl H116 ?_
    clear H116; intro a117 H117
    refine tplain (y_sub rfl rfl rfl (by first | exact w64 (by omega) (by omega) | rfl)) rfl rfl rfl H117 ?_
    clear H117; intro a118 H118
    refine tplain (y_ixL rfl Tryd.underlying97 z_size89 rfl rfl (by omega) (by omega) rfl) rfl rfl rfl H118 ?_
    clear H118; intro a119 H119
    refine tplain (y_loadB rfl z_agg89 rfl MM (by rw [show 0 + ((t : Int) - 7).toNat * 1 = t - 7 by omega]; exact grow_get _ _ _ (by omega))) rfl rfl rfl H119 ?_
    clear H119; intro a120 H120
    refine tplain (y_add32 rfl rfl rfl) rfl rfl rfl H120 ?_
    clear H120; intro a121 H121
    refine tplain (y_move rfl rfl) rfl rfl rfl H121 ?_
    clear H121; intro a122 H122
    refine tplain (y_add32 rfl rfl rfl) rfl rfl rfl H122 ?_
    clear H122; intro a123 H123
    refine tplain (y_move rfl rfl) rfl rfl rfl H123 ?_
    clear H123; intro a124 H124
    refine tplain (y_move rfl rfl) rfl rfl rfl H124 ?_
    clear H124; intro a125 H125
    refine tplain (y_sub rfl rfl rfl (by first | exact w64 (by omega) (by omega) | rfl)) rfl rfl rfl H125 ?_
    clear H125; intro a126 H126
    refine tplain (y_ixL rfl Tryd.underlying97 z_size89 rfl rfl (by omega) (by omega) rfl) rfl rfl rfl H126 ?_
    clear H126; intro a127 H127
    refine tplain (y_loadB rfl z_agg89 rfl MM (by rw [show 0 + ((t : Int) - 16).toNat * 1 = t - 16 by omega]; exact grow_get _ _ _ (by omega))) rfl rfl rfl H127 ?_
    clear H127; intro a128 H128
    refine tplain (y_add32 rfl rfl rfl) rfl rfl rfl H128 ?_
    clear H128; intro a129 H129
    refine tplain (y_ixL rfl Tryd.underlying97 z_size89 rfl rfl (by omega) (by omega) rfl) rfl rfl rfl H129 ?_
    clear H129; intro a130 H130
    refine tfin ?_
    refine st_store1 rfl z_size89 rfl rfl rfl UU (by first | decide | (simp; omega)) rfl rfl H130 ?_
    clear H130; intro wx131 H131
    refine fin ?_
    refine inb_n ?_
    refine then_n ?_
    refine reg ?_
    refine plain (y_move rfl rfl) rfl rfl rfl H131 ?_
    clear H131; intro a132 H132
    refine plain (y_add rfl rfl rfl (by first | exact w64 (by omega) (by omega) | rfl)) rfl rfl rfl H132 ?_
    clear H132; intro a133 H133
    refine plain (y_assign rfl rfl) rfl rfl rfl H133 ?_
    clear H133; intro a134 H134
    refine fin ?_
    refine then_n ?_
    refine ⟨t + 1, by omega, by omega, H134.weak ⟨rfl, rfl, rfl, rfl, rfl, fi rfl (by omega), trivial⟩ (ib2 ?_ rfl)⟩
    rw [Sha.next_comm, Sha.sched_next _ (by omega)]
    rw [Sha.nextW]
    skip
    exact grow_set _ _ t 64 _ hsl (by omega)
  ·skip
   refine wp_exit ?_
   refine then_x ?_
   refine then_x ?_
   refine inb_hit ?_
   refine then_n ?_
   refine wp_seq ?_
   refine reg ?_
   refine st_buildSlice1 (xs := []) rfl Tryd.underlying97 z_size89 z_zero89 rfl rfl rfl rfl rfl rfl rfl rfl rfl H19 ?_
   clear H19; intro b135 a135 wx135 H135
   refine plain (y_move rfl rfl) rfl rfl rfl H135 ?_
   clear H135; intro a136 H136
   replace H136 := H136.asRow (size := 1) (m := 0) UU rfl (by unfold maxLen; omega)
   refine st_append rfl z_slice97 z_notint97 rfl rfl (fun _ => UU) (fun w hs => Src.slice (rd_blkA MM w hs) (by simp [hvl]) (by simp [Value.oneCell'])) (by unfold maxLen; omega) (by omega) rfl rfl rfl H136 ?_
   clear H136; intro v137 a137 wx137 hnil137 H137
   refine plain (y_assign rfl rfl) rfl rfl rfl H137 ?_
   clear H137; intro a138 H138
   refine fin ?_
   refine then_n ?_
   refine wp_seq ?_
   refine wp_seq ?_
   refine reg ?_
   refine plain (y_assign rfl rfl) rfl rfl rfl H138 ?_
   clear H138; intro a139 H139
   refine fin ?_
   refine then_n ?_
   refine wp_block ?_
   have ht64 : t = 64 := by omega
   subst ht64
   obtain ⟨Ar, cr, hvr, hRr, hmr⟩ := row_shape (v := v137) H139.sep MM
   subst hvr
   refine loop (ι := Nat × Option Addr × Nat) (fun x => [(2, .pointer (some ⟨b1, 0, none⟩)), (3, .slice Ap (Sha.pad s).length cp), (4, .slice (some ⟨b5, 0, none⟩) 8 8), (5, .int .i64 ((64 * n : Nat) : Int)), (6, .slice (some ⟨b14, 0, none⟩) 64 64), (11, .slice x.2.1 8 x.2.2), (12, .int .i64 (x.1 : Int))]) (fun x => [It.row 89 1 (.slice x.2.1 8 x.2.2) 8 ((Sha.rounds (Sha.blocks Sha.H0 (Sha.pad s) n) (Sha.sched (((Sha.pad s).drop (64 * n)).take 64) 64) x.1).map u32), It.blk b14 89 ((Sha.sched (((Sha.pad s).drop (64 * n)).take 64) 64).map u32 ++ List.replicate (64 - 64) (.int .u32 0)), It.blk b5 89 ((Sha.blocks Sha.H0 (Sha.pad s) n).map u32), It.row 5 1 (.slice Ap (Sha.pad s).length cp) (Sha.pad s).length ((Sha.pad s).map u8), It.blk b1 23 (List.replicate 32 (.int .u8 0))]) (fun x => x.1 ≤ 64) (fun x => 64 - x.1) ((0, Ar, cr)) (Nat.zero_le _) (H139.weak ⟨rfl, rfl, rfl, rfl, rfl, fv rfl (by rw [show 0 + 8 = 8 from rfl]), rfl, trivial⟩ rfl) ?_
   clear H139; intro x a140 wx140 hok140 H140
   obtain ⟨t, Av, cv⟩ := x
   dsimp only at hok140 H140
   have hok3 := hok140
   have hwl := Sha.sched_length (((Sha.pad s).drop (64 * n)).take 64) 64
   have hrl := Sha.rounds_length (ws := Sha.sched (((Sha.pad s).drop (64 * n)).take 64) 64) hvl t
   refine wp_seq ?_
   refine wp_seq ?_
   refine reg ?_
   refine plain (y_move rfl rfl) rfl rfl rfl H140 ?_
   clear H140; intro a141 H141
   refine plain (y_lss rfl rfl rfl) rfl rfl rfl H141 ?_
   clear H141; intro a142 H142
   refine fin ?_
   refine then_n ?_
   refine cnd_d H142 rfl (fun hc143 => ?_) (fun hc143 => ?_) -- cond 4
   ·skip
    refine wp_skip ?_
    refine then_n ?_
    refine wp_seq ?_
    refine wp_block ?_
    refine wp_seq ?_
    refine qreg (by kernel_rfl) (by kernel_rfl) H142 ?_
    have F144 := H142.fr
    clear H142
    refine qplain (y_move rfl rfl) rfl rfl rfl F144 ?_
    clear F144; intro a145 H145
    refine qplain (y_ixR rfl Tryd.underlying97 z_size89 rfl rfl (by omega) (by omega) (rd_row MM) (by first | (rw [List.length_map]; omega) | (simp; omega))) rfl rfl rfl H145 ?_
    clear H145; intro a146 H146
    refine qplain (y_loadR rfl z_agg89 rfl (rd_row MM) (u32_get _ 7 (by omega))) rfl rfl rfl H146 ?_
    clear H146; intro a147 H147
    refine qplain (y_move rfl rfl) rfl rfl rfl H147 ?_
    clear H147; intro a148 H148
    refine qplain (y_ixR rfl Tryd.underlying97 z_size89 rfl rfl (by omega) (by omega) (rd_row MM) (by first | (rw [List.length_map]; omega) | (simp; omega))) rfl rfl rfl H148 ?_
    clear H148; intro a149 H149
    refine qplain (y_loadR rfl z_agg89 rfl (rd_row MM) (u32_get _ 4 (by omega))) rfl rfl rfl H149 ?_
    clear H149; intro a150 H150
    refine qcallg rfl z_call57 rfl rfl rfl rfl H150 (fun w hs => (three _ 6 11 25 (by decide) (by decide) (by decide) (by decide) (by decide) (by decide) _)) ?_
    clear H150; intro a151 H151
    refine qplain (y_add32 rfl rfl rfl) rfl rfl rfl H151 ?_
    clear H151; intro a152 H152
    refine qplain (y_move rfl rfl) rfl rfl rfl H152 ?_
    clear H152; intro a153 H153
    refine qplain (y_ixR rfl Tryd.underlying97 z_size89 rfl rfl (by omega) (by omega) (rd_row MM) (by first | (rw [List.length_map]; omega) | (simp; omega))) rfl rfl rfl H153 ?_
    clear H153; intro a154 H154
    refine qplain (y_loadR rfl z_agg89 rfl (rd_row MM) (u32_get _ 4 (by omega))) rfl rfl rfl H154 ?_
    clear H154; intro a155 H155
    refine qplain (y_move rfl rfl) rfl rfl rfl H155 ?_
    clear H155; intro a156 H156
    refine qplain (y_ixR rfl Tryd.underlying97 z_size89 rfl rfl (by omega) (by omega) (rd_row MM) (by first | (rw [List.length_map]; omega) | (simp; omega))) rfl rfl rfl H156 ?_
    clear H156; intro a157 H157
    refine qplain (y_loadR rfl z_agg89 rfl (rd_row MM) (u32_get _ 5 (by omega))) rfl rfl rfl H157 ?_
    clear H157; intro a158 H158
    refine qplain (y_and32 rfl rfl rfl) rfl rfl rfl H158 ?_
    clear H158; intro a159 H159
    refine qplain (y_move rfl rfl) rfl rfl rfl H159 ?_
    clear H159; intro a160 H160
    refine qplain (y_ixR rfl Tryd.underlying97 z_size89 rfl rfl (by omega) (by omega) (rd_row MM) (by first | (rw [List.length_map]; omega) | (simp; omega))) rfl rfl rfl H160 ?_
    clear H160; intro a161 H161
    refine qplain (y_loadR rfl z_agg89 rfl (rd_row MM) (u32_get _ 4 (by omega))) rfl rfl rfl H161 ?_
    clear H161; intro a162 H162
    refine qplain (y_not32 rfl rfl) rfl rfl rfl H162 ?_
    clear H162; intro a163 H163
    refine qplain (y_move rfl rfl) rfl rfl rfl H163 ?_
    clear H163; intro a164 H164
    refine qplain (y_ixR rfl Tryd.underlying97 z_size89 rfl rfl (by omega) (by omega) (rd_row MM) (by first | (rw [List.length_map]; omega) | (simp; omega))) rfl rfl rfl H164 ?_
    clear H164; intro a165 H165
    refine qplain (y_loadR rfl z_agg89 rfl (rd_row MM) (u32_get _ 6 (by omega))) rfl rfl rfl H165 ?_
    clear H165; intro a166 H166
    refine qplain (y_and32 rfl rfl rfl) rfl rfl rfl H166 ?_
    clear H166; intro a167 H167
    refine qplain (y_xor32 rfl rfl rfl) rfl rfl rfl H167 ?_
    clear H167; intro a168 H168
    refine qplain (y_add32 rfl rfl rfl) rfl rfl rfl H168 ?_
    clear H168; intro a169 H169
    refine qplain (y_move rfl rfl) rfl rfl rfl H169 ?_
    clear H169; intro a170 H170
    refine qcallg rfl z_call58 rfl rfl rfl rfl H170 (fun w hs => (word t (by omega) _)) ?_
    clear H170; intro a171 H171
    refine qplain (y_add32 rfl rfl rfl) rfl rfl rfl H171 ?_
    clear H171; intro a172 H172
    refine qplain (y_move rfl rfl) rfl rfl rfl H172 ?_
    clear H172; intro a173 H173
    refine qplain (y_move rfl rfl) rfl rfl rfl H173 ?_
    clear H173; intro a174 H174
    refine qplain (y_ixL rfl Tryd.underlying97 z_size89 rfl rfl (by omega) (by omega) rfl) rfl rfl rfl H174 ?_
    clear H174; intro a175 H175
    refine qplain (y_loadB rfl z_agg89 rfl MM (by rw [show 0 + (t : Int).toNat * 1 = t by omega]; exact grow_get _ _ _ (by omega))) rfl rfl rfl H175 ?_
    clear H175; intro a176 H176
    refine qplain (y_add32 rfl rfl rfl) rfl rfl rfl H176 ?_
    clear H176; intro a177 H177
    refine qplain (y_assign rfl rfl) rfl rfl rfl H177 ?_
    clear H177; intro a178 H178
    refine qfin H178 ?_
    clear H178; intro wx179 H179
    refine then_n ?_
    refine wp_seq ?_
    refine qreg (by kernel_rfl) (by kernel_rfl) H179 ?_
    have F180 := H179.fr
    clear H179
    refine qplain (y_move rfl rfl) rfl rfl rfl F180 ?_
    clear F180; intro a181 H181
    refine qplain (y_ixR rfl Tryd.underlying97 z_size89 rfl rfl (by omega) (by omega) (rd_row MM) (by first | (rw [List.length_map]; omega) | (simp; omega))) rfl rfl rfl H181 ?_
    clear H181; intro a182 H182
    refine qplain (y_loadR rfl z_agg89 rfl (rd_row MM) (u32_get _ 0 (by omega))) rfl rfl rfl H182 ?_
    clear H182; intro a183 H183
    refine qcallg rfl z_call57 rfl rfl rfl rfl H183 (fun w hs => (three _ 2 13 22 (by decide) (by decide) (by decide) (by decide) (by decide) (by decide) _)) ?_
    clear H183; intro a184 H184
    refine qplain (y_move rfl rfl) rfl rfl rfl H184 ?_
    clear H184; intro a185 H185
    refine qplain (y_ixR rfl Tryd.underlying97 z_size89 rfl rfl (by omega) (by omega) (rd_row MM) (by first | (rw [List.length_map]; omega) | (simp; omega))) rfl rfl rfl H185 ?_
    clear H185; intro a186 H186
    refine qplain (y_loadR rfl z_agg89 rfl (rd_row MM) (u32_get _ 0 (by omega))) rfl rfl rfl H186 ?_
    clear H186; intro a187 H187
    refine qplain (y_move rfl rfl) rfl rfl rfl H187 ?_
    clear H187; intro a188 H188
    refine qplain (y_ixR rfl Tryd.underlying97 z_size89 rfl rfl (by omega) (by omega) (rd_row MM) (by first | (rw [List.length_map]; omega) | (simp; omega))) rfl rfl rfl H188 ?_
    clear H188; intro a189 H189
    refine qplain (y_loadR rfl z_agg89 rfl (rd_row MM) (u32_get _ 1 (by omega))) rfl rfl rfl H189 ?_
    clear H189; intro a190 H190
    refine qplain (y_and32 rfl rfl rfl) rfl rfl rfl H190 ?_
    clear H190; intro a191 H191
    refine qplain (y_move rfl rfl) rfl rfl rfl H191 ?_
    clear H191; intro a192 H192
    refine qplain (y_ixR rfl Tryd.underlying97 z_size89 rfl rfl (by omega) (by omega) (rd_row MM) (by first | (rw [List.length_map]; omega) | (simp; omega))) rfl rfl rfl H192 ?_
    clear H192; intro a193 H193
    refine qplain (y_loadR rfl z_agg89 rfl (rd_row MM) (u32_get _ 0 (by omega))) rfl rfl rfl H193 ?_
    clear H193; intro a194 H194
    refine qplain (y_move rfl rfl) rfl rfl rfl H194 ?_
    clear H194; intro a195 H195
    refine qplain (y_ixR rfl Tryd.underlying97 z_size89 rfl rfl (by omega) (by omega) (rd_row MM) (by first | (rw [List.length_map]; omega) | (simp; omega))) rfl rfl rfl H195 ?_
    clear H195; intro a196 H196
    refine qplain (y_loadR rfl z_agg89 rfl (rd_row MM) (u32_get _ 2 (by omega))) rfl rfl rfl H196 ?_
    clear H196; intro a197 H197
    refine qplain (y_and32 rfl rfl rfl) rfl rfl rfl H197 ?_
    clear H197; intro a198 H198
    refine qplain (y_xor32 rfl rfl rfl) rfl rfl rfl H198 ?_
    clear H198; intro a199 H199
    refine qplain (y_move rfl rfl) rfl rfl rfl H199 ?_
    clear H199; intro a200 H200
    refine qplain (y_ixR rfl Tryd.underlying97 z_size89 rfl rfl (by omega) (by omega) (rd_row MM) (by first | (rw [List.length_map]; omega) | (simp; omega))) rfl rfl rfl H200 ?_
    clear H200; intro a201 H201
    refine qplain (y_loadR rfl z_agg89 rfl (rd_row MM) (u32_get _ 1 (by omega))) rfl rfl rfl H201 ?_
    clear H201; intro a202 H202
    refine qplain (y_move rfl rfl) rfl rfl rfl H202 ?_
    clear H202; intro a203 H203
    refine qplain (y_ixR rfl Tryd.underlying97 z_size89 rfl rfl (by omega) (by omega) (rd_row MM) (by first | (rw [List.length_map]; omega) | (simp; omega))) rfl rfl rfl H203 ?_
    clear H203; intro a204 H204
    refine qplain (y_loadR rfl z_agg89 rfl (rd_row MM) (u32_get _ 2 (by omega))) rfl rfl rfl H204 ?_
    clear H204; intro a205 H205
    refine qplain (y_and32 rfl rfl rfl) rfl rfl rfl H205 ?_
    clear H205; intro a206 H206
    refine qplain (y_xor32 rfl rfl rfl) rfl rfl rfl H206 ?_
    clear H206; intro a207 H207
    refine qplain (y_add32 rfl rfl rfl) rfl rfl rfl H207 ?_
    clear H207; intro a208 H208
    refine qplain (y_assign rfl rfl) rfl rfl rfl H208 ?_
    clear H208; intro a209 H209
    refine qfin H209 ?_
    clear H209; intro wx210 H210
    refine then_n ?_
    refine treg 26 (by kernel_rfl) (by kernel_rfl) H210 ?_
    clear H210; intro wx211 H211
    refine tplain (y_move rfl rfl) rfl rfl rfl H211 ?_
    clear H211; intro a212 H212
    refine tplain (y_move rfl rfl) rfl rfl rfl H212 ?_
    clear H212; intro a213 H213
    refine tplain (y_add32 rfl rfl rfl) rfl rfl rfl H213 ?_
    clear H213; intro a214 H214
    refine tplain (y_move rfl rfl) rfl rfl rfl H214 ?_
    clear H214; intro a215 H215
    refine tplain (y_ixR rfl Tryd.underlying97 z_size89 rfl rfl (by omega) (by omega) (rd_row MM) (by first | (rw [List.length_map]; omega) | (simp; omega))) rfl rfl rfl H215 ?_
    clear H215; intro a216 H216
    refine tplain (y_loadR rfl z_agg89 rfl (rd_row MM) (u32_get _ 0 (by omega))) rfl rfl rfl H216 ?_
    clear H216; intro a217 H217
    refine tplain (y_move rfl rfl) rfl rfl rfl H217 ?_
    clear H217; intro a218 H218
    refine tplain (y_ixR rfl Tryd.underlying97 z_size89 rfl rfl (by omega) (by omega) (rd_row MM) (by first | (rw [List.length_map]; omega) | (simp; omega))) rfl rfl rfl H218 ?_
    clear H218; intro a219 H219
    refine tplain (y_loadR rfl z_agg89 rfl (rd_row MM) (u32_get _ 1 (by omega))) rfl rfl rfl H219 ?_
    clear H219; intro a220 H220
    refine tplain (y_move rfl rfl) rfl rfl rfl H220 ?_
    clear H220; intro a221 H221
    refine tplain (y_ixR rfl Tryd.underlying97 z_size89 rfl rfl (by omega) (by omega) (rd_row MM) (by first | (rw [List.length_map]; omega) | (simp; omega))) rfl rfl rfl H221 ?_
    clear H221; intro a222 H222
    refine tplain (y_loadR rfl z_agg89 rfl (rd_row MM) (u32_get _ 2 (by omega))) rfl rfl rfl H222 ?_
    clear H222; intro a223 H223
    refine tplain (y_move rfl rfl) rfl rfl rfl H223 ?_
    clear H223; intro a224 H224
    refine tplain (y_ixR rfl Tryd.underlying97 z_size89 rfl rfl (by omega) (by omega) (rd_row MM) (by first | (rw [List.length_map]; omega) | (simp; omega))) rfl rfl rfl H224 ?_
    clear H224; intro a225 H225
    refine tplain (y_loadR rfl z_agg89 rfl (rd_row MM) (u32_get _ 3 (by omega))) rfl rfl rfl H225 ?_
    clear H225; intro a226 H226
    refine tplain (y_move rfl rfl) rfl rfl rfl H226 ?_
    clear H226; intro a227 H227
    refine tplain (y_add32 rfl rfl rfl) rfl rfl rfl H227 ?_
    clear H227; intro a228 H228
    refine tplain (y_move rfl rfl) rfl rfl rfl H228 ?_
    clear H228; intro a229 H229
    refine tplain (y_ixR rfl Tryd.underlying97 z_size89 rfl rfl (by omega) (by omega) (rd_row MM) (by first | (rw [List.length_map]; omega) | (simp; omega))) rfl rfl rfl H229 ?_
    clear H229; intro a230 H230
    refine tplain (y_loadR rfl z_agg89 rfl (rd_row MM) (u32_get _ 4 (by omega))) rfl rfl rfl H230 ?_
    clear H230; intro a231 H231
    refine tplain (y_move rfl rfl) rfl rfl rfl H231 ?_
    clear H231; intro a232 H232
    refine tplain (y_ixR rfl Tryd.underlying97 z_size89 rfl rfl (by omega) (by omega) (rd_row MM) (by first | (rw [List.length_map]; omega) | (simp; omega))) rfl rfl rfl H232 ?_
    clear H232; intro a233 H233
    refine tplain (y_loadR rfl z_agg89 rfl (rd_row MM) (u32_get _ 5 (by omega))) rfl rfl rfl H233 ?_
    clear H233; intro a234 H234
    refine tplain (y_move rfl rfl) rfl rfl rfl H234 ?_
    clear H234; intro a235 H235
    refine tplain (y_ixR rfl Tryd.underlying97 z_size89 rfl rfl (by omega) (by omega) (rd_row MM) (by first | (rw [List.length_map]; omega) | (simp; omega))) rfl rfl rfl H235 ?_
    clear H235; intro a236 H236
    refine tplain (y_loadR rfl z_agg89 rfl (rd_row MM) (u32_get _ 6 (by omega))) rfl rfl rfl H236 ?_
    clear H236; intro a237 H237
    refine tfin ?_
    refine st_buildSlice1 (xs := [.tmp 198, .tmp 201, .tmp 204, .tmp 207, .tmp 212, .tmp 215, .tmp 218, .tmp 221]) rfl Tryd.underlying97 z_size89 z_zero89 rfl rfl rfl rfl rfl rfl rfl rfl rfl H237 ?_
    clear H237; intro b238 a238 wx238 H238
    refine plain (y_assign rfl rfl) rfl rfl rfl H238 ?_
    clear H238; intro a239 H239
    refine fin ?_
    refine inb_n ?_
    refine then_n ?_
    refine reg ?_
    refine plain (y_move rfl rfl) rfl rfl rfl H239 ?_
    clear H239; intro a240 H240
    refine plain (y_add rfl rfl rfl (by first | exact w64 (by omega) (by omega) | rfl)) rfl rfl rfl H240 ?_
    clear H240; intro a241 H241
    refine plain (y_assign rfl rfl) rfl rfl rfl H241 ?_
    clear H241; intro a242 H242
    refine fin ?_
    refine then_n ?_
    replace H242 := H242.asRow (size := 1) (m := 8) UU rfl (by unfold maxLen; omega)
    exact ⟨(t + 1, _, _), by dsimp only; omega, by dsimp only; omega, (H242.drop (List.Sublist.cons_cons _ (List.Sublist.cons _ (List.Sublist.refl _)))).weak ⟨rfl, rfl, rfl, rfl, rfl, rfl, fi rfl (by dsimp only; omega), trivial⟩ rfl⟩
   ·skip
    refine wp_exit ?_
    refine then_x ?_
    refine then_x ?_
    refine inb_hit ?_
    refine then_n ?_
    refine wp_seq ?_
    refine reg ?_
    refine plain (y_assign rfl rfl) rfl rfl rfl H142 ?_
    clear H142; intro a243 H243
    refine fin ?_
    refine then_n ?_
    refine wp_block ?_
    have ht64 : t = 64 := by omega
    subst ht64
    refine loop (ι := Nat) (fun i => [(2, .pointer (some ⟨b1, 0, none⟩)), (3, .slice Ap (Sha.pad s).length cp), (4, .slice (some ⟨b5, 0, none⟩) 8 8), (5, .int .i64 ((64 * n : Nat) : Int)), (11, .slice Av 8 cv), (15, .int .i64 (i : Int))]) (fun i => [It.row 89 1 (.slice Av 8 cv) 8 ((Sha.rounds (Sha.blocks Sha.H0 (Sha.pad s) n) (Sha.sched (((Sha.pad s).drop (64 * n)).take 64) 64) 64).map u32), It.blk b14 89 ((Sha.sched (((Sha.pad s).drop (64 * n)).take 64) 64).map u32 ++ List.replicate (64 - 64) (.int .u32 0)), It.blk b5 89 ((Sha.mix (Sha.blocks Sha.H0 (Sha.pad s) n) (Sha.rounds (Sha.blocks Sha.H0 (Sha.pad s) n) (Sha.sched (((Sha.pad s).drop (64 * n)).take 64) 64) 64) i).map u32), It.row 5 1 (.slice Ap (Sha.pad s).length cp) (Sha.pad s).length ((Sha.pad s).map u8), It.blk b1 23 (List.replicate 32 (.int .u8 0))]) (fun i => i ≤ 8) (fun i => 8 - i) (0) (Nat.zero_le _) (H243.weak ⟨rfl, rfl, rfl, rfl, rfl, rfl, trivial⟩ (by rw [Sha.mix_zero])) ?_
    clear H243; intro i a244 wx244 hok244 H244
    have hok4 := hok244
    have hml := Sha.mix_length hvl hrl i
    refine wp_seq ?_
    refine wp_seq ?_
    refine reg ?_
    refine plain (y_move rfl rfl) rfl rfl rfl H244 ?_
    clear H244; intro a245 H245
    refine plain (y_lss rfl rfl rfl) rfl rfl rfl H245 ?_
    clear H245; intro a246 H246
    refine fin ?_
    refine then_n ?_
    refine cnd_d H246 rfl (fun hc247 => ?_) (fun hc247 => ?_) -- cond 5
    ·skip
     refine wp_skip ?_
     refine then_n ?_
     refine wp_seq ?_
     refine wp_block ?_
     refine treg 12 (by kernel_rfl) (by kernel_rfl) H246 ?_
     clear H246; intro wx248 H248
     refine tplain (y_move rfl rfl) rfl rfl rfl H248 ?_
     clear H248; intro a249 H249
     refine tplain (y_move rfl rfl) rfl rfl rfl H249 ?_
     clear H249; intro a250 H250
     refine tplain (y_move rfl rfl) rfl rfl rfl H250 ?_
     clear H250; intro a251 H251
     refine tplain (y_move rfl rfl) rfl rfl rfl H251 ?_
     clear H251; intro a252 H252
     refine tplain (y_ixL rfl Tryd.underlying97 z_size89 rfl rfl (by omega) (by omega) rfl) rfl rfl rfl H252 ?_
     clear H252; intro a253 H253
     refine tplain (y_loadB rfl z_agg89 rfl MM (by rw [show 0 + (i : Int).toNat * 1 = i by omega]; exact u32_get _ _ (by omega))) rfl rfl rfl H253 ?_
     clear H253; intro a254 H254
     refine tplain (y_move rfl rfl) rfl rfl rfl H254 ?_
     clear H254; intro a255 H255
     refine tplain (y_move rfl rfl) rfl rfl rfl H255 ?_
     clear H255; intro a256 H256
     refine tplain (y_ixR rfl Tryd.underlying97 z_size89 rfl rfl (by omega) (by omega) (rd_row MM) (by first | (rw [List.length_map]; omega) | (simp; omega))) rfl rfl rfl H256 ?_
     clear H256; intro a257 H257
     refine tplain (y_loadR rfl z_agg89 rfl (rd_row MM) (by rw [show (i : Int).toNat * 1 = i by omega]; exact u32_get _ _ (by omega))) rfl rfl rfl H257 ?_
     clear H257; intro a258 H258
     refine tplain (y_add32 rfl rfl rfl) rfl rfl rfl H258 ?_
     clear H258; intro a259 H259
     refine tplain (y_ixL rfl Tryd.underlying97 z_size89 rfl rfl (by omega) (by omega) rfl) rfl rfl rfl H259 ?_
     clear H259; intro a260 H260
     refine tfin ?_
     refine st_store1 rfl z_size89 rfl rfl rfl UU (by first | decide | (simp; omega)) rfl rfl H260 ?_
     clear H260; intro wx261 H261
     refine fin ?_
     refine inb_n ?_
     refine then_n ?_
     refine reg ?_
     refine plain (y_move rfl rfl) rfl rfl rfl H261 ?_
     clear H261; intro a262 H262
     refine plain (y_add rfl rfl rfl (by first | exact w64 (by omega) (by omega) | rfl)) rfl rfl rfl H262 ?_
     clear H262; intro a263 H263
     refine plain (y_assign rfl rfl) rfl rfl rfl H263 ?_
     clear H263; intro a264 H264
     refine fin ?_
     refine then_n ?_
     refine ⟨i + 1, by omega, by omega, H264.weak ⟨rfl, rfl, rfl, rfl, rfl, fi rfl (by omega), trivial⟩ (ir2 rfl rfl (ib2 rfl (ib2 ?_ rfl)))⟩
     rw [u32_set, Sha.mix_get hvl hrl (by omega), Sha.mix_succ hvl hrl (by omega)]
    ·skip
     refine wp_exit ?_
     refine then_x ?_
     refine then_x ?_
     refine inb_hit ?_
     refine inb_n ?_
     refine then_n ?_
     refine reg ?_
     refine plain (y_move rfl rfl) rfl rfl rfl H246 ?_
     clear H246; intro a265 H265
     refine plain (y_add rfl rfl rfl (by first | exact w64 (by omega) (by omega) | rfl)) rfl rfl rfl H265 ?_
     clear H265; intro a266 H266
     refine plain (y_assign rfl rfl) rfl rfl rfl H266 ?_
     clear H266; intro a267 H267
     refine fin ?_
     refine then_n ?_
     refine ⟨n + 1, by omega, by omega, (H267.drop (List.Sublist.cons _ (List.Sublist.cons _ (List.Sublist.refl _)))).weak ⟨rfl, rfl, rfl, fi rfl (by omega), trivial⟩ ?_⟩
     exact (ib2 (by rw [show i = 8 by omega, Sha.mix_all hvl (Sha.rounds_length hvl 64)]; rfl) rfl)
 ·skip
  refine wp_exit ?_
  refine then_x ?_
  refine then_x ?_
  refine inb_hit ?_
  refine then_n ?_
  refine wp_seq ?_
  refine reg ?_
  refine plain (y_buildA rfl z_zero23 Tryd.underlying23 z_size5 rfl rfl) rfl rfl rfl H12 ?_
  clear H12; intro a268 H268
  refine st_alloc rfl z_zero23 rfl rfl rfl H268 ?_
  clear H268; intro b269 a269 wx269 H269
  refine st_store (vs := _) rfl z_size23 rfl rfl rfl rfl rfl UU (by decide) rfl rfl H269 ?_
  clear H269; intro wx270 H270
  refine fin ?_
  refine then_n ?_
  refine wp_seq ?_
  refine wp_seq ?_
  refine reg ?_
  refine plain (y_assign rfl rfl) rfl rfl rfl H270 ?_
  clear H270; intro a271 H271
  refine fin ?_
  refine then_n ?_
  refine wp_block ?_
  refine loop (ι := Nat) (fun i => [(2, .pointer (some ⟨b1, 0, none⟩)), (4, .slice (some ⟨b5, 0, none⟩) 8 8), (16, .pointer (some ⟨b269, 0, none⟩)), (17, .int .i64 (i : Int))]) (fun i => [It.blk b269 23 (((Sha.out (Sha.blocks Sha.H0 (Sha.pad s) n)).take i).map u8 ++ List.replicate (32 - i) (.int .u8 0)), It.blk b5 89 ((Sha.blocks Sha.H0 (Sha.pad s) n).map u32), It.row 5 1 (.slice Ap (Sha.pad s).length cp) (Sha.pad s).length ((Sha.pad s).map u8), It.blk b1 23 (List.replicate 32 (.int .u8 0))]) (fun i => i ≤ 32) (fun i => 32 - i) (0) (Nat.zero_le _) (H271.weak ⟨rfl, rfl, rfl, rfl, trivial⟩ (ib2 (spl_all rfl) rfl)) ?_
  clear H271; intro i a272 wx272 hok272 H272
  have hok5 := hok272
  have hou : (Sha.out (Sha.blocks Sha.H0 (Sha.pad s) n)).length = 32 := by rw [Sha.out_length, hvl]
  have hol : ((Sha.out (Sha.blocks Sha.H0 (Sha.pad s) n)).take i).length = i := by rw [List.length_take, hou]; omega
  refine wp_seq ?_
  refine wp_seq ?_
  refine reg ?_
  refine plain (y_move rfl rfl) rfl rfl rfl H272 ?_
  clear H272; intro a273 H273
  refine plain (y_lss rfl rfl rfl) rfl rfl rfl H273 ?_
  clear H273; intro a274 H274
  refine fin ?_
  refine then_n ?_
  refine cnd_d H274 rfl (fun hc275 => ?_) (fun hc275 => ?_) -- cond 6
  ·skip
   refine wp_skip ?_
   refine then_n ?_
   refine wp_seq ?_
   refine wp_block ?_
   refine reg ?_
   refine plain (y_move rfl rfl) rfl rfl rfl H274 ?_
   clear H274; intro a276 H276
   refine plain (y_move rfl rfl) rfl rfl rfl H276 ?_
   clear H276; intro a277 H277
   refine plain (y_move rfl rfl) rfl rfl rfl H277 ?_
   clear H277; intro a278 H278
   refine plain (y_quo rfl rfl rfl (by first | decide | omega) (show IntKind.i64.wrap (Int.tdiv (i : Int) 4) = ((i / 4 : Nat) : Int) by rw [Int.tdiv_eq_ediv_of_nonneg (by omega), w64 (by omega) (by omega)]; omega)) rfl rfl rfl H278 ?_
   clear H278; intro a279 H279
   refine plain (y_ixL rfl Tryd.underlying97 z_size89 rfl rfl (by omega) (by omega) rfl) rfl rfl rfl H279 ?_
   clear H279; intro a280 H280
   refine plain (y_loadB rfl z_agg89 rfl MM (by rw [show 0 + ((i / 4 : Nat) : Int).toNat * 1 = i / 4 by omega]; exact u32_get _ _ (by omega))) rfl rfl rfl H280 ?_
   clear H280; intro a281 H281
   refine plain (y_move rfl rfl) rfl rfl rfl H281 ?_
   clear H281; intro a282 H282
   refine plain (y_rem rfl rfl rfl (by first | decide | omega) (Int.tmod_eq_emod_of_nonneg (by omega))) rfl rfl rfl H282 ?_
   clear H282; intro a283 H283
   refine plain (y_mul rfl rfl rfl (by first | exact w64 (by omega) (by omega) | rfl)) rfl rfl rfl H283 ?_
   clear H283; intro a284 H284
   refine plain (y_sub rfl rfl rfl (by first | exact w64 (by omega) (by omega) | rfl)) rfl rfl rfl H284 ?_
   clear H284; intro a285 H285
   refine plain (y_shr rfl rfl rfl (by omega) (show Int.fdiv (((Sha.blocks Sha.H0 (Sha.pad s) n).getD (i / 4) 0).toNat : Int) (2 ^ (min ((24 - 8 * ((i : Int) % 4)).toNat) IntKind.u32.bits)) = ((((Sha.blocks Sha.H0 (Sha.pad s) n).getD (i / 4) 0 >>> (24 - 8 * (i % 4))).toNat) : Int) by rw [show (24 - 8 * ((i : Int) % 4)) = ((24 - 8 * (i % 4) : Nat) : Int) by omega]; exact shr32 _ _ (by omega))) rfl rfl rfl H285 ?_
   clear H285; intro a286 H286
   refine plain (y_low rfl Tryd.underlying89 Tryd.underlying5 rfl) rfl rfl rfl H286 ?_
   clear H286; intro a287 H287
   refine plain (y_ixA rfl Tryd.underlying23 z_size5 rfl rfl (by omega) (by omega) rfl) rfl rfl rfl H287 ?_
   clear H287; intro a288 H288
   refine st_store1 rfl z_size5 rfl rfl rfl UU (by simp [hol]; omega) rfl rfl H288 ?_
   clear H288; intro wx289 H289
   refine fin ?_
   refine inb_n ?_
   refine then_n ?_
   refine reg ?_
   refine plain (y_move rfl rfl) rfl rfl rfl H289 ?_
   clear H289; intro a290 H290
   refine plain (y_add rfl rfl rfl (by first | exact w64 (by omega) (by omega) | rfl)) rfl rfl rfl H290 ?_
   clear H290; intro a291 H291
   refine plain (y_assign rfl rfl) rfl rfl rfl H291 ?_
   clear H291; intro a292 H292
   refine fin ?_
   refine then_n ?_
   refine ⟨i + 1, by omega, by omega, H292.weak ⟨rfl, rfl, rfl, fi rfl (by omega), trivial⟩ (ib2 ?_ rfl)⟩
   rw [Sha.out_take1 _ (by omega)]
   exact set1 _ 32 i _ hol (by omega)
  ·skip
   refine wp_exit ?_
   refine then_x ?_
   refine then_x ?_
   refine inb_hit ?_
   refine then_n ?_
   refine wp_seq ?_
   refine reg ?_
   refine plain (y_loadAB rfl z_agg23 z_size23 rfl MM (take_all (by simp [hol]; omega)) (by simp [hol]; omega)) rfl rfl rfl H274 ?_
   clear H274; intro a293 H293
   refine st_store (vs := _) rfl z_size23 rfl rfl (show _ = List.map u8 _ ++ List.replicate _ _ from rfl) (one_u8z _ _) (by simp [hol]; omega) UU (by decide) rfl rfl H293 ?_
   clear H293; intro wx294 H294
   refine fin ?_
   refine then_n ?_
   refine wp_ret ?_
   -- return 1
   refine retc rfl H294 rfl z_agg23 z_size23 MM (by simp [spl, hol]; omega) ?_
   have hi8 : i = 32 := by omega
   subst hi8
   refine ⟨_, [], rfl, ⟨?_, rfl⟩, H294.sep.sub (List.nil_sublist _)⟩
   rw [spl_all (by rw [List.length_append, List.length_map, hol]; rfl), List.take_of_length_le (by omega)]
   have hn : (Sha.pad s).length / 64 = n := by omega
   simp [Sha.sum, hn]

end Go.Proofs.YtlhddgkbbdfacaaDoor.C_RSum

set_option linter.unusedVariables false
set_option linter.unusedSimpArgs false
namespace Go.Proofs.YtlhddgkbbdfacaaDoor.C_Num
open Go.Sx Go.RowKit

theorem z_zero83 : zeroL Tryd.prog 83 = some ([.int .u8 0, .int .u8 0, .int .u8 0, .int .u8 0, .int .u8 0, .int .u8 0, .int .u8 0, .int .u8 0, .int .u8 0]) := by kernel_rfl
theorem z_size5 : sizeB Tryd.prog 5 = some 1 := by kernel_rfl
theorem z_zero5 : zeroL Tryd.prog 5 = some ([.int .u8 0]) := by kernel_rfl
theorem z_size9 : sizeB Tryd.prog 9 = some 1 := by kernel_rfl
theorem z_agg9 : aggB Tryd.prog 9 = some false := by kernel_rfl
theorem z_slice66 : sliceB Tryd.prog 66 = some (5, 1, 1) := by kernel_rfl
theorem z_zval5 : (Tryd.prog.info? 5).bind (·.zero) = some (.int .u8 0) := by kernel_rfl
theorem z_call30 : callB Tryd.prog 30 = true := by kernel_rfl
theorem z_zero9 : zeroL Tryd.prog 9 = some ([.string ⟨#[]⟩]) := by kernel_rfl
theorem z_call49 : callB Tryd.prog 49 = true := by kernel_rfl
theorem z_call34 : callB Tryd.prog 34 = true := by kernel_rfl
theorem z_call48 : callB Tryd.prog 48 = true := by kernel_rfl
theorem z_slice67 : sliceB Tryd.prog 67 = some (9, 1, 16) := by kernel_rfl
theorem z_notint67 : notIntB Tryd.prog 67 = true := by kernel_rfl
theorem z_call54 : callB Tryd.prog 54 = true := by kernel_rfl
theorem z_notint9 : notIntB Tryd.prog 9 = true := by kernel_rfl

theorem set_lows (m j : Nat) (hj : j ≤ 7) : (List.replicate (9 - j) (Value.int .u8 0) ++ (Oct.lows j m).map u8).set (0 + (9 - (j : Int) - 1).toNat * 1) (u8 (UInt8.ofNat (m / 256 ^ j))) = List.replicate (9 - (j + 1)) (.int .u8 0) ++ (Oct.lows (j + 1) m).map u8 := by
 have e1 : 0 + (9 - (j : Int) - 1).toNat * 1 = 8 - j := by omega
 have e2 : 9 - j = (8 - j) + 1 := by omega
 have e3 : 9 - (j + 1) = 8 - j := by omega
 rw [e1, e2, e3, List.replicate_succ', List.append_assoc, List.set_append_right _ _ (by simp)]
 simp [Oct.lows]
theorem shr8 (m j : Nat) : Int.fdiv ((m / 256 ^ j : Nat) : Int) (2 ^ (min (Int.toNat 8) IntKind.i64.bits)) = ((m / 256 ^ (j + 1) : Nat) : Int) := by
 have e : (2 : Int) ^ (min (Int.toNat 8) IntKind.i64.bits) = ((256 : Nat) : Int) := by decide
 rw [e, ← Oct.div_pow_succ, Int.fdiv_eq_ediv_of_nonneg _ (by omega)]
 rfl
theorem drop_lows (m j : Nat) (hj : j ≤ 8) (hb : Oct.blen m = j) : ((List.replicate (9 - j) (Value.int .u8 0) ++ (Oct.lows j m).map u8).set (0 + (9 - (j : Int) - 1).toNat * 1) (u8 (UInt8.ofNat j))).drop (8 - j) = (Oct.numL m).map u8 := by
 have e1 : 0 + (9 - (j : Int) - 1).toNat * 1 = 8 - j := by omega
 have e2 : 9 - j = (8 - j) + 1 := by omega
 rw [e1, e2, List.replicate_succ', List.append_assoc, List.set_append_right _ _ (by simp)]
 simp [Oct.numL, hb]
theorem conv_rem' (x : Nat) : IntKind.u8.wrap (Int.tmod (x : Int) 256) = ((UInt8.ofNat x).toNat : Int) := by
 rw [Int.tmod_eq_emod_of_nonneg (by omega), wu8_mod, UInt8.toNat_ofNat']
 omega
theorem conv_rem (m j : Nat) : IntKind.u8.wrap (Int.tmod ((m / 256 ^ j : Nat) : Int) 256) = ((UInt8.ofNat (m / 256 ^ j)).toNat : Int) := conv_rem' _
theorem quo8' (x m : Nat) (h1 : x ≤ m) (hm : m ≤ 9223372036854775807) : IntKind.i64.wrap (Int.tdiv (x : Int) 256) = ((x / 256 : Nat) : Int) := by
 rw [Int.tdiv_eq_ediv_of_nonneg (by omega), w64 (by omega) (by omega)]
 omega
theorem quo8 (m j : Nat) (hm : m ≤ 9223372036854775807 := by omega) : IntKind.i64.wrap (Int.tdiv ((m / 256 ^ j : Nat) : Int) 256) = ((m / 256 ^ (j + 1) : Nat) : Int) := by
 rw [← Oct.div_pow_succ]
 exact quo8' _ m (Nat.div_le_self _ _) hm
theorem made_u8 (m : Nat) : (madeCells #[Value.int .u8 0] (m * 1)).toList = List.replicate m (.int .u8 0) := by rw [Nat.mul_one, toList_madeCells_one]
theorem spl_join (l : List (List UInt8)) (k : Nat) (hk : k < l.length) : spl ((Oct.tf l k).map u8 ++ List.replicate (l.flatten.length - (Oct.tf l k).length) (Value.int .u8 0)) (Oct.tf l k).length ((l.getD k []).map u8) = (Oct.tf l (k + 1)).map u8 ++ List.replicate (l.flatten.length - (Oct.tf l (k + 1)).length) (Value.int .u8 0) := by
 have h := Oct.len_le_flatten hk
 rw [Oct.tf_succ hk]
 unfold spl
 rw [List.take_left' (by simp), List.drop_append, List.drop_eq_nil_of_le (by simp), List.nil_append]
 simp only [List.map_append, List.append_assoc, List.length_append, List.length_map, List.drop_replicate]
 congr 3
 omega

set_option maxRecDepth 100000 in
set_option maxHeartbeats 1000000 in
theorem num (n : Int) (hn : n ≤ 9223372036854775807) (w : World) : Calls Tryd.prog 30 #[.int .i64 n] w (Gives (.tuple #[str (Oct.number n).1, .int .i64 (Oct.number n).2]) [] w) := by
 refine enterL (args := [.int .i64 n]) Tryd.func30 rfl rfl (l := []) (Sep.refl _) ?_
 intro a0 H0
 refine wp_seq ?_
 refine reg ?_
 refine plain (y_assign rfl rfl) rfl rfl rfl H0 ?_
 clear H0; intro a1 H1
 refine plain (y_assign rfl rfl) rfl rfl rfl H1 ?_
 clear H1; intro a2 H2
 refine fin ?_
 refine then_n ?_
 refine wp_seq ?_
 refine wp_seq ?_
 refine reg ?_
 refine plain (y_move rfl rfl) rfl rfl rfl H2 ?_
 clear H2; intro a3 H3
 refine plain (y_lss rfl rfl rfl) rfl rfl rfl H3 ?_
 clear H3; intro a4 H4
 refine fin ?_
 refine then_n ?_
 refine cnd_d H4 rfl (fun hc5 => ?_) (fun hc5 => ?_) -- cond 1
 ·skip
  refine wp_seq ?_
  refine reg ?_
  refine plain (y_assign rfl rfl) rfl rfl rfl H4 ?_
  clear H4; intro a6 H6
  refine plain (y_assign rfl rfl) rfl rfl rfl H6 ?_
  clear H6; intro a7 H7
  refine fin ?_
  refine then_n ?_
  refine wp_ret ?_
  refine then_r ?_
  -- return 1
  refine ret2 rfl H7 rfl rfl ?_
  exact ⟨_, [], rfl, ⟨by simp [Oct.number, *], rfl⟩, H7.sep.sub (List.nil_sublist _)⟩
 ·skip
  obtain ⟨m, rfl⟩ := Int.eq_ofNat_of_zero_le (Int.not_lt.1 hc5)
  refine wp_skip ?_
  refine then_n ?_
  refine wp_seq ?_
  refine reg ?_
  refine st_alloc rfl z_zero83 rfl rfl rfl H4 ?_
  clear H4; intro b8 a8 wx8 H8
  refine fin ?_
  refine then_n ?_
  refine wp_seq ?_
  refine reg ?_
  refine plain (y_assign rfl rfl) rfl rfl rfl H8 ?_
  clear H8; intro a9 H9
  refine fin ?_
  refine then_n ?_
  refine wp_seq ?_
  refine wp_block ?_
  refine loop (ι := Nat) (fun j => [(0, .int .i64 ((m / 256 ^ j : Nat) : Int)), (4, .pointer (some ⟨b8, 0, none⟩)), (5, .int .i64 (9 - (j : Int)))]) (fun j => [It.blk b8 83 (List.replicate (9 - j) (.int .u8 0) ++ (Oct.lows j m).map u8)]) (fun j => j ≤ 8 ∧ (j = 0 ∨ 256 ^ (j - 1) ≤ m)) (fun j => 9 - j) (0) ⟨by omega, .inl rfl⟩ (H9.weak ⟨fi rfl (by simp), rfl, rfl, trivial⟩ rfl) ?_
  clear H9; intro j a10 wx10 hok10 H10
  have hok := hok10
  refine wp_seq ?_
  refine wp_seq ?_
  refine reg ?_
  refine plain (y_move rfl rfl) rfl rfl rfl H10 ?_
  clear H10; intro a11 H11
  refine plain (y_gtr rfl rfl rfl) rfl rfl rfl H11 ?_
  clear H11; intro a12 H12
  refine fin ?_
  refine then_n ?_
  refine cnd_d H12 rfl (fun hc13 => ?_) (fun hc13 => ?_) -- cond 2
  ·skip
   obtain ⟨hj, hle⟩ := Oct.round_pos' (m := m) (j := j) (by omega) hc13
   refine wp_skip ?_
   refine then_n ?_
   refine wp_seq ?_
   refine wp_block ?_
   refine wp_seq ?_
   refine reg ?_
   refine plain (y_move rfl rfl) rfl rfl rfl H12 ?_
   clear H12; intro a14 H14
   refine plain (y_sub rfl rfl rfl (by first | exact w64 (by omega) (by omega) | rfl)) rfl rfl rfl H14 ?_
   clear H14; intro a15 H15
   refine plain (y_assign rfl rfl) rfl rfl rfl H15 ?_
   clear H15; intro a16 H16
   refine fin ?_
   refine then_n ?_
   refine reg ?_
   refine plain (y_move rfl rfl) rfl rfl rfl H16 ?_
   clear H16; intro a17 H17
   refine plain (y_move rfl rfl) rfl rfl rfl H17 ?_
   clear H17; intro a18 H18
   refine plain (y_conv rfl Tryd.underlying3 Tryd.underlying5 rfl (wu8_nat _)) rfl rfl rfl H18 ?_
   clear H18; intro a19 H19
   refine plain (y_ixA rfl Tryd.underlying83 z_size5 rfl rfl (by omega) (by omega) rfl) rfl rfl rfl H19 ?_
   clear H19; intro a20 H20
   refine st_store1 rfl z_size5 rfl rfl rfl UU (by first | decide | (simp; omega)) rfl rfl H20 ?_
   clear H20; intro wx21 H21
   refine fin ?_
   refine inb_n ?_
   refine then_n ?_
   refine reg ?_
   refine plain (y_move rfl rfl) rfl rfl rfl H21 ?_
   clear H21; intro a22 H22
   refine plain (y_shr rfl rfl rfl (by decide) (shr8 m j)) rfl rfl rfl H22 ?_
   clear H22; intro a23 H23
   refine plain (y_assign rfl rfl) rfl rfl rfl H23 ?_
   clear H23; intro a24 H24
   refine fin ?_
   refine then_n ?_
   refine ⟨j + 1, by omega, ⟨by omega, .inr (by simpa using hle)⟩, H24.weak ⟨rfl, rfl, fi rfl (by omega), trivial⟩ (ib (set_lows m j hj))⟩
  ·skip
   have hb : Oct.blen m = j := Oct.round_zero' hc13 hok.2
   refine wp_exit ?_
   refine then_x ?_
   refine then_x ?_
   refine inb_hit ?_
   refine then_n ?_
   refine wp_seq ?_
   refine reg ?_
   refine plain (y_move rfl rfl) rfl rfl rfl H12 ?_
   clear H12; intro a25 H25
   refine plain (y_sub rfl rfl rfl (by first | exact w64 (by omega) (by omega) | rfl)) rfl rfl rfl H25 ?_
   clear H25; intro a26 H26
   refine plain (y_move rfl rfl) rfl rfl rfl H26 ?_
   clear H26; intro a27 H27
   refine plain (y_sub rfl rfl rfl (by first | exact w64 (by omega) (by omega) | rfl)) rfl rfl rfl H27 ?_
   clear H27; intro a28 H28
   refine plain (y_conv rfl Tryd.underlying3 Tryd.underlying5 rfl (wu8_eq (x := j) (by omega))) rfl rfl rfl H28 ?_
   clear H28; intro a29 H29
   refine plain (y_ixA rfl Tryd.underlying83 z_size5 rfl rfl (by omega) (by omega) rfl) rfl rfl rfl H29 ?_
   clear H29; intro a30 H30
   refine st_store1 rfl z_size5 rfl rfl rfl UU (by first | decide | (simp; omega)) rfl rfl H30 ?_
   clear H30; intro wx31 H31
   refine fin ?_
   refine then_n ?_
   refine wp_seq ?_
   refine reg ?_
   refine plain (y_move rfl rfl) rfl rfl rfl H31 ?_
   clear H31; intro a32 H32
   refine plain (y_sub rfl rfl rfl (by first | exact w64 (by omega) (by omega) | rfl)) rfl rfl rfl H32 ?_
   clear H32; intro a33 H33
   refine plain (y_slA rfl Tryd.underlying83 z_size5 rfl rfl (by omega) (by omega)) rfl rfl rfl H33 ?_
   clear H33; intro a34 H34
   refine plain (y_bstr rfl Tryd.underlying66 Tryd.underlying5 Tryd.underlying9 rfl (by simp [Oct.lows_length, Oct.numL, hb]; omega) (rd_slA MM (q := 8 - j) (by simp [Oct.lows_length]; omega) (by omega) (drop_lows m j hok.1 hb))) rfl rfl rfl H34 ?_
   clear H34; intro a35 H35
   refine plain (y_assign rfl rfl) rfl rfl rfl H35 ?_
   clear H35; intro a36 H36
   refine plain (y_assign rfl rfl) rfl rfl rfl H36 ?_
   clear H36; intro a37 H37
   refine fin ?_
   refine then_n ?_
   refine wp_ret ?_
   -- return 2
   refine ret2 rfl H37 rfl rfl ?_
   exact ⟨_, [], rfl, ⟨by simp [Oct.number, show ¬ ((m : Int) < 0) by omega], rfl⟩, H37.sep.sub (List.nil_sublist _)⟩
set_option maxRecDepth 100000 in
set_option maxHeartbeats 1000000 in
theorem numR (n : Int) (hn : n ≤ 9223372036854775807) (w : World) : Calls Tryd.prog 34 #[.int .i64 n] w (Gives (.tuple #[str (Oct.number n).1, .int .i64 (Oct.number n).2]) [] w) := by
 refine enterL (args := [.int .i64 n]) Tryd.func34 rfl rfl (l := []) (Sep.refl _) ?_
 intro a0 H0
 refine wp_seq ?_
 refine reg ?_
 refine plain (y_assign rfl rfl) rfl rfl rfl H0 ?_
 clear H0; intro a1 H1
 refine plain (y_assign rfl rfl) rfl rfl rfl H1 ?_
 clear H1; intro a2 H2
 refine fin ?_
 refine then_n ?_
 refine wp_seq ?_
 refine wp_seq ?_
 refine reg ?_
 refine plain (y_move rfl rfl) rfl rfl rfl H2 ?_
 clear H2; intro a3 H3
 refine plain (y_lss rfl rfl rfl) rfl rfl rfl H3 ?_
 clear H3; intro a4 H4
 refine fin ?_
 refine then_n ?_
 refine cnd_d H4 rfl (fun hc5 => ?_) (fun hc5 => ?_) -- cond 1
 ·skip
  refine wp_seq ?_
  refine reg ?_
  refine plain (y_assign rfl rfl) rfl rfl rfl H4 ?_
  clear H4; intro a6 H6
  refine plain (y_assign rfl rfl) rfl rfl rfl H6 ?_
  clear H6; intro a7 H7
  refine fin ?_
  refine then_n ?_
  refine wp_ret ?_
  refine then_r ?_
  -- return 1
  refine ret2 rfl H7 rfl rfl ?_
  exact ⟨_, [], rfl, ⟨by simp [Oct.number, *], rfl⟩, H7.sep.sub (List.nil_sublist _)⟩
 ·skip
  obtain ⟨m, rfl⟩ := Int.eq_ofNat_of_zero_le (Int.not_lt.1 hc5)
  refine wp_skip ?_
  refine then_n ?_
  refine wp_seq ?_
  refine reg ?_
  refine plain (y_assign rfl rfl) rfl rfl rfl H4 ?_
  clear H4; intro a8 H8
  refine fin ?_
  refine then_n ?_
  refine wp_seq ?_
  refine reg ?_
  refine plain (y_assign rfl rfl) rfl rfl rfl H8 ?_
  clear H8; intro a9 H9
  refine fin ?_
  refine then_n ?_
  refine wp_seq ?_
  refine wp_block ?_
  refine loop (ι := Nat) (fun j => [(0, .int .i64 ((m / 256 ^ j : Nat) : Int)), (4, str (Oct.lows j m)), (5, .int .i64 (j : Int))]) (fun j => []) (fun j => j ≤ 8 ∧ (j = 0 ∨ 256 ^ (j - 1) ≤ m)) (fun j => 9 - j) (0) ⟨by omega, .inl rfl⟩ (H9.weak ⟨fi rfl (by simp), rfl, rfl, trivial⟩ rfl) ?_
  clear H9; intro j a10 wx10 hok10 H10
  have hok := hok10
  refine wp_seq ?_
  refine wp_seq ?_
  refine reg ?_
  refine plain (y_move rfl rfl) rfl rfl rfl H10 ?_
  clear H10; intro a11 H11
  refine plain (y_gtr rfl rfl rfl) rfl rfl rfl H11 ?_
  clear H11; intro a12 H12
  refine fin ?_
  refine then_n ?_
  refine cnd_d H12 rfl (fun hc13 => ?_) (fun hc13 => ?_) -- cond 2
  ·skip
   obtain ⟨hj, hle⟩ := Oct.round_pos' (m := m) (j := j) (by omega) hc13
   refine wp_skip ?_
   refine then_n ?_
   refine wp_block ?_
   refine wp_seq ?_
   refine reg ?_
   refine plain (y_move rfl rfl) rfl rfl rfl H12 ?_
   clear H12; intro a14 H14
   refine plain (y_rem rfl rfl rfl (by first | decide | omega) rfl) rfl rfl rfl H14 ?_
   clear H14; intro a15 H15
   refine plain (y_conv rfl Tryd.underlying3 Tryd.underlying5 rfl (conv_rem m j)) rfl rfl rfl H15 ?_
   clear H15; intro a16 H16
   refine st_buildSlice1 (xs := [.tmp 12]) rfl Tryd.underlying66 z_size5 z_zero5 rfl rfl rfl rfl rfl rfl rfl rfl rfl H16 ?_
   clear H16; intro b17 a17 wx17 H17
   refine plain (y_bstr (p := [UInt8.ofNat (m / 256 ^ j)]) rfl Tryd.underlying66 Tryd.underlying5 Tryd.underlying9 rfl (by rfl) (rd_blk (off := 0) MM 1 rfl)) rfl rfl rfl H17 ?_
   clear H17; intro a18 H18
   refine plain (y_move rfl rfl) rfl rfl rfl H18 ?_
   clear H18; intro a19 H19
   refine plain (y_sadd rfl rfl rfl (by simp [Oct.lows_length]; omega)) rfl rfl rfl H19 ?_
   clear H19; intro a20 H20
   refine plain (y_assign rfl rfl) rfl rfl rfl H20 ?_
   clear H20; intro a21 H21
   refine fin ?_
   refine then_n ?_
   refine wp_seq ?_
   refine reg ?_
   refine plain (y_move rfl rfl) rfl rfl rfl H21 ?_
   clear H21; intro a22 H22
   refine plain (y_quo rfl rfl rfl (by first | decide | omega) (quo8 m j)) rfl rfl rfl H22 ?_
   clear H22; intro a23 H23
   refine plain (y_assign rfl rfl) rfl rfl rfl H23 ?_
   clear H23; intro a24 H24
   refine fin ?_
   refine then_n ?_
   refine reg ?_
   refine plain (y_move rfl rfl) rfl rfl rfl H24 ?_
   clear H24; intro a25 H25
   refine plain (y_add rfl rfl rfl (by first | exact w64 (by omega) (by omega) | rfl)) rfl rfl rfl H25 ?_
   clear H25; intro a26 H26
   refine plain (y_assign rfl rfl) rfl rfl rfl H26 ?_
   clear H26; intro a27 H27
   refine fin ?_
   refine inb_n ?_
   refine then_n ?_
   refine ⟨j + 1, by omega, ⟨by omega, .inr (by simpa using hle)⟩, (H27.drop (List.nil_sublist _)).weak ⟨rfl, rfl, fi rfl (by omega), trivial⟩ rfl⟩
  ·skip
   have hb : Oct.blen m = j := Oct.round_zero' hc13 hok.2
   refine wp_exit ?_
   refine then_x ?_
   refine then_x ?_
   refine inb_hit ?_
   refine then_n ?_
   refine wp_seq ?_
   refine reg ?_
   refine plain (y_move rfl rfl) rfl rfl rfl H12 ?_
   clear H12; intro a28 H28
   refine plain (y_conv rfl Tryd.underlying3 Tryd.underlying5 rfl (wu8_nat _)) rfl rfl rfl H28 ?_
   clear H28; intro a29 H29
   refine st_buildSlice1 (xs := [.tmp 22]) rfl Tryd.underlying66 z_size5 z_zero5 rfl rfl rfl rfl rfl rfl rfl rfl rfl H29 ?_
   clear H29; intro b30 a30 wx30 H30
   refine plain (y_bstr (p := [UInt8.ofNat j]) rfl Tryd.underlying66 Tryd.underlying5 Tryd.underlying9 rfl (by rfl) (rd_blk (off := 0) MM 1 rfl)) rfl rfl rfl H30 ?_
   clear H30; intro a31 H31
   refine plain (y_move rfl rfl) rfl rfl rfl H31 ?_
   clear H31; intro a32 H32
   refine plain (y_sadd rfl rfl rfl (by simp [Oct.lows_length]; omega)) rfl rfl rfl H32 ?_
   clear H32; intro a33 H33
   refine plain (y_assign rfl rfl) rfl rfl rfl H33 ?_
   clear H33; intro a34 H34
   refine plain (y_assign rfl rfl) rfl rfl rfl H34 ?_
   clear H34; intro a35 H35
   refine fin ?_
   refine then_n ?_
   refine wp_ret ?_
   -- return 2
   refine ret2 rfl H35 rfl rfl ?_
   exact ⟨_, [], rfl, ⟨by simp [Oct.number, show ¬ ((m : Int) < 0) by omega, Oct.numL, hb], rfl⟩, H35.sep.sub (List.nil_sublist _)⟩
set_option maxRecDepth 100000 in
set_option maxHeartbeats 1000000 in
theorem join (l : List (List UInt8)) (A : Option Addr) (m c : Nat) (hm : m = l.length) {w : World} (hR : Rd w A (l.map str)) (hl : l.length ≤ 9223372036854775807) (hb : l.flatten.length ≤ 140737488351232) : Calls Tryd.prog 49 #[.slice A m c] w (Gives (str l.flatten) [] w) := by
 subst hm
 refine enterL (args := [.slice A l.length c]) Tryd.func49 rfl rfl (l := []) (Sep.refl _) ?_
 intro a0 H0
 refine wp_seq ?_
 refine reg ?_
 refine plain (y_assign rfl rfl) rfl rfl rfl H0 ?_
 clear H0; intro a1 H1
 refine fin ?_
 refine then_n ?_
 refine wp_seq ?_
 refine reg ?_
 refine plain (y_assign rfl rfl) rfl rfl rfl H1 ?_
 clear H1; intro a2 H2
 refine fin ?_
 refine then_n ?_
 refine wp_seq ?_
 refine wp_seq ?_
 refine reg ?_
 refine plain (y_move rfl rfl) rfl rfl rfl H2 ?_
 clear H2; intro a3 H3
 refine plain (y_len rfl Tryd.underlying67 rfl) rfl rfl rfl H3 ?_
 clear H3; intro a4 H4
 refine plain (y_move rfl rfl) rfl rfl rfl H4 ?_
 clear H4; intro a5 H5
 refine fin ?_
 refine then_n ?_
 refine wp_block ?_
 refine loop (ι := Nat) (fun k => [(0, .slice A l.length c), (3, .int .i64 ((Oct.tf l k).length : Int)), (10, .slice A l.length c), (11, .int .i64 (l.length : Int)), (12, .int .i64 (k : Int))]) (fun k => []) (fun k => k ≤ l.length) (fun k => l.length - k) (0) (by omega) (H5.weak ⟨rfl, fi rfl (by simp [Oct.tf_zero]), rfl, rfl, rfl, trivial⟩ rfl) ?_
 clear H5; intro k a6 wx6 hok6 H6
 have hok := hok6
 have hle := Oct.tf_le l k
 have hlk := fun h : k < l.length => Oct.len_le_flatten (l := l) (k := k) h
 have hsl := fun h : k < l.length => Oct.tf_succ (l := l) (k := k) h
 refine wp_seq ?_
 refine reg ?_
 refine plain (y_lss rfl rfl rfl) rfl rfl rfl H6 ?_
 clear H6; intro a7 H7
 refine fin ?_
 refine then_n ?_
 refine wp_seq ?_
 refine cnd_d H7 rfl (fun hc8 => ?_) (fun hc8 => ?_) -- cond 1
 ·skip
  refine wp_skip ?_
  refine then_n ?_
  refine wp_seq ?_
  refine wp_block ?_
  refine wp_seq ?_
  refine reg ?_
  refine plain (y_ixR rfl Tryd.underlying67 z_size9 rfl rfl (by omega) (by omega) (rd_old (by assumption) (by simp)) (by simp; omega)) rfl rfl rfl H7 ?_
  clear H7; intro a9 H9
  refine plain (y_loadR rfl z_agg9 rfl (rd_old (by assumption) (by simp)) (by simp only [Int.toNat_natCast, Nat.mul_one, Nat.add_zero]; exact map_get _ _ _ [] (by omega))) rfl rfl rfl H9 ?_
  clear H9; intro a10 H10
  refine plain (y_assign rfl rfl) rfl rfl rfl H10 ?_
  clear H10; intro a11 H11
  refine fin ?_
  refine then_n ?_
  refine reg ?_
  refine plain (y_move rfl rfl) rfl rfl rfl H11 ?_
  clear H11; intro a12 H12
  refine plain (y_move rfl rfl) rfl rfl rfl H12 ?_
  clear H12; intro a13 H13
  refine plain (y_slen rfl Tryd.underlying9 rfl) rfl rfl rfl H13 ?_
  clear H13; intro a14 H14
  refine plain (y_add rfl rfl rfl (w64 (by omega) (by have := hlk (by omega); omega))) rfl rfl rfl H14 ?_
  clear H14; intro a15 H15
  refine plain (y_assign rfl rfl) rfl rfl rfl H15 ?_
  clear H15; intro a16 H16
  refine fin ?_
  refine inb_n ?_
  refine then_n ?_
  refine reg ?_
  refine plain (y_add rfl rfl rfl (by first | exact w64 (by omega) (by omega) | rfl)) rfl rfl rfl H16 ?_
  clear H16; intro a17 H17
  refine plain (y_move rfl rfl) rfl rfl rfl H17 ?_
  clear H17; intro a18 H18
  refine fin ?_
  refine then_n ?_
  refine ⟨k + 1, by omega, by omega, H18.weak ⟨rfl, fi rfl (by rw [Oct.tf_succ (by omega)]; simp), rfl, rfl, fi rfl (by omega), trivial⟩ rfl⟩
 ·skip
  have hall : Oct.tf l k = l.flatten := Oct.tf_all (by omega)
  rw [hall] at H7
  refine wp_exit ?_
  refine then_x ?_
  refine then_x ?_
  refine inb_hit ?_
  refine then_n ?_
  refine wp_seq ?_
  refine reg ?_
  refine plain (y_move rfl rfl) rfl rfl rfl H7 ?_
  clear H7; intro a19 H19
  refine st_make rfl z_slice66 rfl rfl (by unfold maxLen; omega) (by omega) z_zval5 rfl rfl rfl H19 ?_
  clear H19; intro b20 a20 wx20 H20
  refine plain (y_assign rfl rfl) rfl rfl rfl H20 ?_
  clear H20; intro a21 H21
  refine fin ?_
  refine then_n ?_
  refine wp_seq ?_
  refine reg ?_
  refine plain (y_assign rfl rfl) rfl rfl rfl H21 ?_
  clear H21; intro a22 H22
  refine fin ?_
  refine then_n ?_
  refine wp_seq ?_
  refine wp_seq ?_
  refine reg ?_
  refine plain (y_move rfl rfl) rfl rfl rfl H22 ?_
  clear H22; intro a23 H23
  refine plain (y_len rfl Tryd.underlying67 rfl) rfl rfl rfl H23 ?_
  clear H23; intro a24 H24
  refine plain (y_move rfl rfl) rfl rfl rfl H24 ?_
  clear H24; intro a25 H25
  refine fin ?_
  refine then_n ?_
  refine wp_block ?_
  refine loop (ι := Nat) (fun k2 => [(6, .slice (some ⟨b20, 0, none⟩) l.flatten.length l.flatten.length), (7, .int .i64 ((Oct.tf l k2).length : Int)), (23, .slice A l.length c), (24, .int .i64 (l.length : Int)), (25, .int .i64 (k2 : Int))]) (fun k2 => [It.blk b20 5 ((Oct.tf l k2).map u8 ++ List.replicate (l.flatten.length - (Oct.tf l k2).length) (.int .u8 0))]) (fun k2 => k2 ≤ l.length) (fun k2 => l.length - k2) (0) (by omega) (H25.weak ⟨rfl, fi rfl (by simp [Oct.tf_zero]), rfl, rfl, rfl, trivial⟩ (ib (by rw [Oct.tf_zero]; exact (made_u8 _).trans (by simp)))) ?_
  clear H25; intro k2 a26 wx26 hok26 H26
  have hok2 := hok26
  have hle2 := Oct.tf_le l k2
  have hlk2 := fun h : k2 < l.length => Oct.len_le_flatten (l := l) (k := k2) h
  refine wp_seq ?_
  refine reg ?_
  refine plain (y_lss rfl rfl rfl) rfl rfl rfl H26 ?_
  clear H26; intro a27 H27
  refine fin ?_
  refine then_n ?_
  refine wp_seq ?_
  refine cnd_d H27 rfl (fun hc28 => ?_) (fun hc28 => ?_) -- cond 2
  ·skip
   refine wp_skip ?_
   refine then_n ?_
   refine wp_seq ?_
   refine wp_block ?_
   refine wp_seq ?_
   refine reg ?_
   refine plain (y_ixR rfl Tryd.underlying67 z_size9 rfl rfl (by omega) (by omega) (rd_old (by assumption) (by simp)) (by simp; omega)) rfl rfl rfl H27 ?_
   clear H27; intro a29 H29
   refine plain (y_loadR rfl z_agg9 rfl (rd_old (by assumption) (by simp)) (by simp only [Int.toNat_natCast, Nat.mul_one, Nat.add_zero]; exact map_get _ _ _ [] (by omega))) rfl rfl rfl H29 ?_
   clear H29; intro a30 H30
   refine plain (y_assign rfl rfl) rfl rfl rfl H30 ?_
   clear H30; intro a31 H31
   refine fin ?_
   refine then_n ?_
   refine reg ?_
   refine plain (y_move rfl rfl) rfl rfl rfl H31 ?_
   clear H31; intro a32 H32
   refine plain (y_move rfl rfl) rfl rfl rfl H32 ?_
   clear H32; intro a33 H33
   refine plain (y_move rfl rfl) rfl rfl rfl H33 ?_
   clear H33; intro a34 H34
   refine plain (y_slS_lo rfl Tryd.underlying66 z_size5 rfl rfl (by omega) (by omega)) rfl rfl rfl H34 ?_
   clear H34; intro a35 H35
   refine plain (y_move rfl rfl) rfl rfl rfl H35 ?_
   clear H35; intro a36 H36
   refine st_copyT rfl Tryd.underlying66 z_size5 rfl rfl UU (by have := hlk2 (by omega); omega) (by simp only [List.length_append, List.length_map, List.length_replicate]; omega) rfl rfl rfl H36 ?_
   clear H36; intro a37 wx37 H37
   refine plain (y_add rfl rfl rfl (w64 (by omega) (by have := hlk2 (by omega); omega))) rfl rfl rfl H37 ?_
   clear H37; intro a38 H38
   refine plain (y_assign rfl rfl) rfl rfl rfl H38 ?_
   clear H38; intro a39 H39
   refine fin ?_
   refine inb_n ?_
   refine then_n ?_
   refine reg ?_
   refine plain (y_add rfl rfl rfl (by first | exact w64 (by omega) (by omega) | rfl)) rfl rfl rfl H39 ?_
   clear H39; intro a40 H40
   refine plain (y_move rfl rfl) rfl rfl rfl H40 ?_
   clear H40; intro a41 H41
   refine fin ?_
   refine then_n ?_
   refine ⟨k2 + 1, by omega, by omega, H41.weak ⟨rfl, fi rfl (by rw [Oct.tf_succ (by omega)]; simp), rfl, rfl, fi rfl (by omega), trivial⟩ (ib (spl_join l k2 (by omega)))⟩
  ·skip
   refine wp_exit ?_
   refine then_x ?_
   refine then_x ?_
   refine inb_hit ?_
   refine then_n ?_
   refine wp_seq ?_
   refine reg ?_
   refine plain (y_move rfl rfl) rfl rfl rfl H27 ?_
   clear H27; intro a42 H42
   refine plain (y_bstr (p := l.flatten) rfl Tryd.underlying66 Tryd.underlying5 Tryd.underlying9 rfl rfl (rd_blk (off := 0) MM l.flatten.length (by rw [show Oct.tf l k2 = l.flatten from Oct.tf_all (by omega)]; simp only [Nat.sub_self, List.replicate_zero, List.append_nil, List.drop_zero]; exact List.take_of_length_le (by rw [List.length_map]; exact Nat.le_refl _)))) rfl rfl rfl H42 ?_
   clear H42; intro a43 H43
   refine plain (y_assign rfl rfl) rfl rfl rfl H43 ?_
   clear H43; intro a44 H44
   refine fin ?_
   refine then_n ?_
   refine wp_ret ?_
   -- return 1
   refine ret1 rfl H44 rfl ?_
   exact ⟨_, [], rfl, ⟨rfl, rfl⟩, H44.sep.sub (List.nil_sublist _)⟩
set_option maxRecDepth 100000 in
set_option maxHeartbeats 1000000 in
theorem txt (s : List UInt8) (hs : s.length ≤ 9223372036854775807) (w : World) : Calls Tryd.prog 48 #[str s] w (Gives (.tuple #[str (Oct.text s).1, .int .i64 (Oct.text s).2]) [] w) := by
 refine enterL (args := [str s]) Tryd.func48 rfl rfl (l := []) (Sep.refl _) ?_
 intro a0 H0
 refine wp_seq ?_
 refine reg ?_
 refine plain (y_assign rfl rfl) rfl rfl rfl H0 ?_
 clear H0; intro a1 H1
 refine plain (y_assign rfl rfl) rfl rfl rfl H1 ?_
 clear H1; intro a2 H2
 refine fin ?_
 refine then_n ?_
 refine wp_seq ?_
 refine wp_seq ?_
 refine reg ?_
 refine plain (y_move rfl rfl) rfl rfl rfl H2 ?_
 clear H2; intro a3 H3
 refine plain (y_slen rfl Tryd.underlying9 rfl) rfl rfl rfl H3 ?_
 clear H3; intro a4 H4
 refine plain (y_gtr rfl rfl rfl) rfl rfl rfl H4 ?_
 clear H4; intro a5 H5
 refine fin ?_
 refine then_n ?_
 refine cnd_d H5 rfl (fun hc6 => ?_) (fun hc6 => ?_) -- cond 1
 ·skip
  refine wp_seq ?_
  refine reg ?_
  refine plain (y_assign rfl rfl) rfl rfl rfl H5 ?_
  clear H5; intro a7 H7
  refine plain (y_assign rfl rfl) rfl rfl rfl H7 ?_
  clear H7; intro a8 H8
  refine fin ?_
  refine then_n ?_
  refine wp_ret ?_
  refine then_r ?_
  -- return 1
  refine ret2 rfl H8 rfl rfl ?_
  exact ⟨_, [], rfl, ⟨by simp [Oct.text, show 65536 < s.length by omega], rfl⟩, H8.sep.sub (List.nil_sublist _)⟩
 ·skip
  refine wp_skip ?_
  refine then_n ?_
  refine wp_seq ?_
  refine reg ?_
  refine plain (y_move rfl rfl) rfl rfl rfl H5 ?_
  clear H5; intro a9 H9
  refine plain (y_slen rfl Tryd.underlying9 rfl) rfl rfl rfl H9 ?_
  clear H9; intro a10 H10
  refine st_callg rfl z_call30 rfl rfl rfl rfl H10 (num _ (by omega) _) ?_
  clear H10; intro a11 wx11 H11
  refine plain (y_move rfl rfl) rfl rfl rfl H11 ?_
  clear H11; intro a12 H12
  refine plain (y_extract rfl rfl rfl) rfl rfl rfl H12 ?_
  clear H12; intro a13 H13
  refine plain (y_extract rfl rfl rfl) rfl rfl rfl H13 ?_
  clear H13; intro a14 H14
  refine plain (y_assign rfl rfl) rfl rfl rfl H14 ?_
  clear H14; intro a15 H15
  refine plain (y_assign rfl rfl) rfl rfl rfl H15 ?_
  clear H15; intro a16 H16
  refine fin ?_
  refine then_n ?_
  refine wp_seq ?_
  refine reg ?_
  refine plain (y_move rfl rfl) rfl rfl rfl H16 ?_
  clear H16; intro a17 H17
  refine plain (y_move rfl rfl) rfl rfl rfl H17 ?_
  clear H17; intro a18 H18
  refine st_buildSlice1 (xs := [.tmp 15, .tmp 16]) rfl Tryd.underlying67 z_size9 z_zero9 rfl rfl rfl rfl rfl rfl rfl rfl rfl H18 ?_
  clear H18; intro b19 a19 wx19 H19
  refine st_callg rfl z_call49 rfl rfl rfl rfl H19 (join [(Oct.number (s.length : Int)).1, s] _ _ _ rfl (Rd.ofSep (rd_blk MM 2 rfl) H19.sep) (by simp) (by have := Oct.textL_le (s := s) (by omega); simp [Oct.number_nat] at *; unfold Oct.textL at this; simp at this; omega)) ?_
  clear H19; intro a20 wx20 H20
  refine plain (y_move rfl rfl) rfl rfl rfl H20 ?_
  clear H20; intro a21 H21
  refine plain (y_assign rfl rfl) rfl rfl rfl H21 ?_
  clear H21; intro a22 H22
  refine plain (y_assign rfl rfl) rfl rfl rfl H22 ?_
  clear H22; intro a23 H23
  refine fin ?_
  refine then_n ?_
  refine wp_ret ?_
  -- return 2
  refine ret2 rfl H23 rfl rfl ?_
  exact ⟨_, [], rfl, ⟨by simp [Oct.text, show ¬ 65536 < s.length by omega, Oct.number_nat, Oct.textL], rfl⟩, H23.sep.sub (List.nil_sublist _)⟩
set_option maxRecDepth 100000 in
set_option maxHeartbeats 1000000 in
theorem txtR (s : List UInt8) (hs : s.length ≤ 9223372036854775807) (w : World) : Calls Tryd.prog 54 #[str s] w (Gives (.tuple #[str (Oct.text s).1, .int .i64 (Oct.text s).2]) [] w) := by
 refine enterL (args := [str s]) Tryd.func54 rfl rfl (l := []) (Sep.refl _) ?_
 intro a0 H0
 refine wp_seq ?_
 refine reg ?_
 refine plain (y_assign rfl rfl) rfl rfl rfl H0 ?_
 clear H0; intro a1 H1
 refine plain (y_assign rfl rfl) rfl rfl rfl H1 ?_
 clear H1; intro a2 H2
 refine fin ?_
 refine then_n ?_
 refine wp_seq ?_
 refine wp_seq ?_
 refine reg ?_
 refine plain (y_move rfl rfl) rfl rfl rfl H2 ?_
 clear H2; intro a3 H3
 refine plain (y_slen rfl Tryd.underlying9 rfl) rfl rfl rfl H3 ?_
 clear H3; intro a4 H4
 refine plain (y_gtr rfl rfl rfl) rfl rfl rfl H4 ?_
 clear H4; intro a5 H5
 refine fin ?_
 refine then_n ?_
 refine cnd_d H5 rfl (fun hc6 => ?_) (fun hc6 => ?_) -- cond 1
 ·skip
  refine wp_seq ?_
  refine reg ?_
  refine plain (y_assign rfl rfl) rfl rfl rfl H5 ?_
  clear H5; intro a7 H7
  refine plain (y_assign rfl rfl) rfl rfl rfl H7 ?_
  clear H7; intro a8 H8
  refine fin ?_
  refine then_n ?_
  refine wp_ret ?_
  refine then_r ?_
  -- return 1
  refine ret2 rfl H8 rfl rfl ?_
  exact ⟨_, [], rfl, ⟨by simp [Oct.text, show 65536 < s.length by omega], rfl⟩, H8.sep.sub (List.nil_sublist _)⟩
 ·skip
  refine wp_skip ?_
  refine then_n ?_
  refine wp_seq ?_
  refine reg ?_
  refine plain (y_move rfl rfl) rfl rfl rfl H5 ?_
  clear H5; intro a9 H9
  refine plain (y_slen rfl Tryd.underlying9 rfl) rfl rfl rfl H9 ?_
  clear H9; intro a10 H10
  refine st_callg rfl z_call34 rfl rfl rfl rfl H10 (numR _ (by omega) _) ?_
  clear H10; intro a11 wx11 H11
  refine plain (y_move rfl rfl) rfl rfl rfl H11 ?_
  clear H11; intro a12 H12
  refine plain (y_extract rfl rfl rfl) rfl rfl rfl H12 ?_
  clear H12; intro a13 H13
  refine plain (y_extract rfl rfl rfl) rfl rfl rfl H13 ?_
  clear H13; intro a14 H14
  refine plain (y_assign rfl rfl) rfl rfl rfl H14 ?_
  clear H14; intro a15 H15
  refine plain (y_assign rfl rfl) rfl rfl rfl H15 ?_
  clear H15; intro a16 H16
  refine fin ?_
  refine then_n ?_
  refine wp_seq ?_
  refine reg ?_
  refine plain (y_move rfl rfl) rfl rfl rfl H16 ?_
  clear H16; intro a17 H17
  refine plain (y_move rfl rfl) rfl rfl rfl H17 ?_
  clear H17; intro a18 H18
  refine plain (y_sadd rfl rfl rfl (by have := Oct.textL_le (s := s) (by omega); simp [Oct.number_nat] at *; unfold Oct.textL at this; simp at this; omega)) rfl rfl rfl H18 ?_
  clear H18; intro a19 H19
  refine plain (y_assign rfl rfl) rfl rfl rfl H19 ?_
  clear H19; intro a20 H20
  refine plain (y_assign rfl rfl) rfl rfl rfl H20 ?_
  clear H20; intro a21 H21
  refine fin ?_
  refine then_n ?_
  refine wp_ret ?_
  -- return 2
  refine ret2 rfl H21 rfl rfl ?_
  exact ⟨_, [], rfl, ⟨by simp [Oct.text, show ¬ 65536 < s.length by omega, Oct.number_nat, Oct.textL], rfl⟩, H21.sep.sub (List.nil_sublist _)⟩
set_option maxRecDepth 100000 in
set_option maxHeartbeats 1000000 in
theorem lst (l : List (List UInt8)) (A : Option Addr) (m c : Nat) (hm : m = l.length) {w : World} (hR : Rd w A (l.map str)) (hl : l.length ≤ 9223372036854775807) : Calls Tryd.prog 32 #[.slice A m c] w (Gives (.tuple #[str (Oct.list l).1, .int .i64 (Oct.list l).2]) [] w) := by
 subst hm
 refine enterL (args := [.slice A l.length c]) Tryd.func32 rfl rfl (l := []) (Sep.refl _) ?_
 intro a0 H0
 refine wp_seq ?_
 refine reg ?_
 refine plain (y_assign rfl rfl) rfl rfl rfl H0 ?_
 clear H0; intro a1 H1
 refine plain (y_assign rfl rfl) rfl rfl rfl H1 ?_
 clear H1; intro a2 H2
 refine fin ?_
 refine then_n ?_
 refine wp_seq ?_
 refine wp_seq ?_
 refine reg ?_
 refine plain (y_move rfl rfl) rfl rfl rfl H2 ?_
 clear H2; intro a3 H3
 refine plain (y_len rfl Tryd.underlying67 rfl) rfl rfl rfl H3 ?_
 clear H3; intro a4 H4
 refine plain (y_gtr rfl rfl rfl) rfl rfl rfl H4 ?_
 clear H4; intro a5 H5
 refine fin ?_
 refine then_n ?_
 refine cnd_d H5 rfl (fun hc6 => ?_) (fun hc6 => ?_) -- cond 1
 ·skip
  refine wp_seq ?_
  refine reg ?_
  refine plain (y_assign rfl rfl) rfl rfl rfl H5 ?_
  clear H5; intro a7 H7
  refine plain (y_assign rfl rfl) rfl rfl rfl H7 ?_
  clear H7; intro a8 H8
  refine fin ?_
  refine then_n ?_
  refine wp_ret ?_
  refine then_r ?_
  -- return 1
  refine ret2 rfl H8 rfl rfl ?_
  exact ⟨_, [], rfl, ⟨by rw [Oct.list_big (by omega)], rfl⟩, H8.sep.sub (List.nil_sublist _)⟩
 ·skip
  refine wp_skip ?_
  refine then_n ?_
  refine wp_seq ?_
  refine reg ?_
  refine plain (y_move rfl rfl) rfl rfl rfl H5 ?_
  clear H5; intro a9 H9
  refine plain (y_len rfl Tryd.underlying67 rfl) rfl rfl rfl H9 ?_
  clear H9; intro a10 H10
  refine st_callg rfl z_call30 rfl rfl rfl rfl H10 (num _ (by omega) _) ?_
  clear H10; intro a11 wx11 H11
  refine plain (y_move rfl rfl) rfl rfl rfl H11 ?_
  clear H11; intro a12 H12
  refine plain (y_extract rfl rfl rfl) rfl rfl rfl H12 ?_
  clear H12; intro a13 H13
  refine plain (y_extract rfl rfl rfl) rfl rfl rfl H13 ?_
  clear H13; intro a14 H14
  refine plain (y_assign rfl rfl) rfl rfl rfl H14 ?_
  clear H14; intro a15 H15
  refine plain (y_assign rfl rfl) rfl rfl rfl H15 ?_
  clear H15; intro a16 H16
  refine fin ?_
  refine then_n ?_
  refine wp_seq ?_
  refine reg ?_
  refine plain (y_move rfl rfl) rfl rfl rfl H16 ?_
  clear H16; intro a17 H17
  refine st_buildSlice1 (xs := [.tmp 21]) rfl Tryd.underlying67 z_size9 z_zero9 rfl rfl rfl rfl rfl rfl rfl rfl rfl H17 ?_
  clear H17; intro b18 a18 wx18 H18
  refine plain (y_assign rfl rfl) rfl rfl rfl H18 ?_
  clear H18; intro a19 H19
  refine fin ?_
  refine then_n ?_
  refine wp_seq ?_
  refine reg ?_
  refine plain (y_assign rfl rfl) rfl rfl rfl H19 ?_
  clear H19; intro a20 H20
  refine fin ?_
  refine then_n ?_
  refine wp_seq ?_
  refine wp_seq ?_
  refine reg ?_
  refine plain (y_move rfl rfl) rfl rfl rfl H20 ?_
  clear H20; intro a21 H21
  refine plain (y_len rfl Tryd.underlying67 rfl) rfl rfl rfl H21 ?_
  clear H21; intro a22 H22
  refine plain (y_move rfl rfl) rfl rfl rfl H22 ?_
  clear H22; intro a23 H23
  refine fin ?_
  refine then_n ?_
  refine wp_block ?_
  simp only [Oct.number_nat] at H23
  replace H23 := H23.asRow (size := 1) (m := 1) UU rfl (by unfold maxLen; omega)
  refine loop (ι := Nat × Value) (fun x => [(6, x.2), (7, .int .i64 (65536 - ((Oct.tf l x.1).length : Int))), (23, .slice A l.length c), (24, .int .i64 (l.length : Int)), (25, .int .i64 (x.1 : Int))]) (fun x => [It.row 9 1 x.2 (x.1 + 1) ((Oct.parts l x.1).map str)]) (fun x => x.1 ≤ l.length ∧ (Oct.tf l x.1).length ≤ 65536) (fun x => l.length - x.1) ((0, .slice (some ⟨b18, 0, none⟩) 1 1)) (by simp [Oct.tf_zero]) (H23.weak ⟨rfl, fi rfl (by simp [Oct.tf_zero]), rfl, rfl, rfl, trivial⟩ rfl) ?_
  clear H23; intro x a24 wx24 hok24 H24
  obtain ⟨k, v⟩ := x
  dsimp only at hok24 H24
  have hok := hok24
  have hlk := fun h : k < l.length => Oct.len_le_flatten (l := l) (k := k) h
  refine wp_seq ?_
  refine reg ?_
  refine plain (y_lss rfl rfl rfl) rfl rfl rfl H24 ?_
  clear H24; intro a25 H25
  refine fin ?_
  refine then_n ?_
  refine wp_seq ?_
  refine cnd_d H25 rfl (fun hc26 => ?_) (fun hc26 => ?_) -- cond 2
  ·skip
   refine wp_skip ?_
   refine then_n ?_
   refine wp_seq ?_
   refine wp_block ?_
   refine wp_seq ?_
   refine reg ?_
   refine plain (y_ixR rfl Tryd.underlying67 z_size9 rfl rfl (by omega) (by omega) (rd_old (by assumption) (by simp)) (by simp; omega)) rfl rfl rfl H25 ?_
   clear H25; intro a27 H27
   refine plain (y_loadR rfl z_agg9 rfl (rd_old (by assumption) (by simp)) (by simp only [Int.toNat_natCast, Nat.mul_one, Nat.add_zero]; exact map_get _ _ _ [] (by omega))) rfl rfl rfl H27 ?_
   clear H27; intro a28 H28
   refine plain (y_assign rfl rfl) rfl rfl rfl H28 ?_
   clear H28; intro a29 H29
   refine fin ?_
   refine then_n ?_
   refine wp_seq ?_
   refine wp_seq ?_
   refine reg ?_
   refine plain (y_move rfl rfl) rfl rfl rfl H29 ?_
   clear H29; intro a30 H30
   refine plain (y_slen rfl Tryd.underlying9 rfl) rfl rfl rfl H30 ?_
   clear H30; intro a31 H31
   refine plain (y_move rfl rfl) rfl rfl rfl H31 ?_
   clear H31; intro a32 H32
   refine plain (y_gtr rfl rfl rfl) rfl rfl rfl H32 ?_
   clear H32; intro a33 H33
   refine fin ?_
   refine then_n ?_
   refine cnd_d H33 rfl (fun hc34 => ?_) (fun hc34 => ?_) -- cond 3
   ·skip
    refine wp_seq ?_
    refine reg ?_
    refine plain (y_assign rfl rfl) rfl rfl rfl H33 ?_
    clear H33; intro a35 H35
    refine plain (y_assign rfl rfl) rfl rfl rfl H35 ?_
    clear H35; intro a36 H36
    refine fin ?_
    refine then_n ?_
    refine wp_ret ?_
    refine then_r ?_
    refine inb_r ?_
    refine then_r ?_
    refine then_r ?_
    refine inb_r ?_
    refine then_r ?_
    -- return 2
    refine ret2 rfl H36 rfl rfl ?_
    exact ⟨_, [], rfl, ⟨by rw [Oct.list_long (by have := hlk (by omega); omega)], rfl⟩, H36.sep.sub (List.nil_sublist _)⟩
   ·skip
    refine wp_skip ?_
    refine then_n ?_
    refine wp_seq ?_
    refine reg ?_
    refine plain (y_move rfl rfl) rfl rfl rfl H33 ?_
    clear H33; intro a37 H37
    refine plain (y_move rfl rfl) rfl rfl rfl H37 ?_
    clear H37; intro a38 H38
    refine plain (y_slen rfl Tryd.underlying9 rfl) rfl rfl rfl H38 ?_
    clear H38; intro a39 H39
    refine plain (y_sub rfl rfl rfl (by first | exact w64 (by omega) (by omega) | rfl)) rfl rfl rfl H39 ?_
    clear H39; intro a40 H40
    refine plain (y_assign rfl rfl) rfl rfl rfl H40 ?_
    clear H40; intro a41 H41
    refine fin ?_
    refine then_n ?_
    refine wp_seq ?_
    refine reg ?_
    refine plain (y_move rfl rfl) rfl rfl rfl H41 ?_
    clear H41; intro a42 H42
    refine st_callg rfl z_call48 rfl rfl rfl rfl H42 (txt _ (by omega) _) ?_
    clear H42; intro a43 wx43 H43
    refine plain (y_move rfl rfl) rfl rfl rfl H43 ?_
    clear H43; intro a44 H44
    refine plain (y_extract rfl rfl rfl) rfl rfl rfl H44 ?_
    clear H44; intro a45 H45
    refine plain (y_extract rfl rfl rfl) rfl rfl rfl H45 ?_
    clear H45; intro a46 H46
    refine plain (y_assign rfl rfl) rfl rfl rfl H46 ?_
    clear H46; intro a47 H47
    refine plain (y_assign rfl rfl) rfl rfl rfl H47 ?_
    clear H47; intro a48 H48
    refine fin ?_
    refine then_n ?_
    refine reg ?_
    refine plain (y_move rfl rfl) rfl rfl rfl H48 ?_
    clear H48; intro a49 H49
    refine plain (y_move rfl rfl) rfl rfl rfl H49 ?_
    clear H49; intro a50 H50
    refine st_buildSlice1 (xs := [.tmp 43]) rfl Tryd.underlying67 z_size9 z_zero9 rfl rfl rfl rfl rfl rfl rfl rfl rfl H50 ?_
    clear H50; intro b51 a51 wx51 H51
    refine st_append rfl z_slice67 z_notint67 rfl rfl (fun _ => UU) (fun w hs => Src.slice ((rd_blkA MM) w hs) rfl (by simp [Value.oneCell'])) (by unfold maxLen; omega) (by omega) rfl rfl rfl H51 ?_
    clear H51; intro v52 a52 wx52 hnil52 H52
    refine plain (y_assign rfl rfl) rfl rfl rfl H52 ?_
    clear H52; intro a53 H53
    refine fin ?_
    refine inb_n ?_
    refine then_n ?_
    refine reg ?_
    refine plain (y_add rfl rfl rfl (by first | exact w64 (by omega) (by omega) | rfl)) rfl rfl rfl H53 ?_
    clear H53; intro a54 H54
    refine plain (y_move rfl rfl) rfl rfl rfl H54 ?_
    clear H54; intro a55 H55
    refine fin ?_
    refine then_n ?_
    refine ⟨(k + 1, v52), by dsimp only; omega, by dsimp only; rw [Oct.tf_succ (by omega), List.length_append]; omega, (H55.drop (List.Sublist.cons _ (List.Sublist.refl _))).weak ⟨rfl, fi rfl (by rw [Oct.tf_succ (by omega)]; simp; omega), rfl, rfl, fi rfl (by dsimp only; omega), trivial⟩ (ir rfl ?_)⟩
    rw [Oct.parts_succ (by omega), Oct.text_ok (by omega)]
    simp
  ·skip
   refine wp_exit ?_
   refine then_x ?_
   refine then_x ?_
   refine inb_hit ?_
   refine then_n ?_
   refine wp_seq ?_
   refine reg ?_
   refine plain (y_move rfl rfl) rfl rfl rfl H25 ?_
   clear H25; intro a56 H56
   obtain ⟨A2, c2, hv2, hR2, hm2⟩ := row_shape H56.sep MM
   subst hv2
   refine st_callg rfl z_call49 rfl rfl rfl rfl H56 (join (Oct.parts l k) _ _ _ (by rw [Oct.parts_length _ (by omega)]) hR2 (by rw [Oct.parts_length _ (by omega)]; omega) (by rw [Oct.parts_flatten (by omega)]; have := Oct.listL_le (l := l) (by omega) (by rw [← Oct.tf_all (l := l) (k := k) (by omega)]; exact hok.2); omega)) ?_
   clear H56; intro a57 wx57 H57
   refine plain (y_assign rfl rfl) rfl rfl rfl H57 ?_
   clear H57; intro a58 H58
   refine plain (y_assign rfl rfl) rfl rfl rfl H58 ?_
   clear H58; intro a59 H59
   refine fin ?_
   refine then_n ?_
   refine wp_ret ?_
   -- return 3
   refine ret2 rfl H59 rfl rfl ?_
   exact ⟨_, [], rfl, ⟨by rw [Oct.parts_flatten (by omega), Oct.list_ok (by omega) (by have := Oct.tf_all (l := l) (k := k) (by omega); rw [this] at hok; omega)], rfl⟩, H59.sep.sub (List.nil_sublist _)⟩
set_option maxRecDepth 100000 in
set_option maxHeartbeats 1000000 in
theorem lstR (l : List (List UInt8)) (A : Option Addr) (m c : Nat) (hm : m = l.length) {w : World} (hR : Rd w A (l.map str)) (hl : l.length ≤ 9223372036854775807) : Calls Tryd.prog 37 #[.slice A m c] w (Gives (.tuple #[str (Oct.list l).1, .int .i64 (Oct.list l).2]) [] w) := by
 subst hm
 refine enterL (args := [.slice A l.length c]) Tryd.func37 rfl rfl (l := []) (Sep.refl _) ?_
 intro a0 H0
 refine wp_seq ?_
 refine reg ?_
 refine plain (y_assign rfl rfl) rfl rfl rfl H0 ?_
 clear H0; intro a1 H1
 refine plain (y_assign rfl rfl) rfl rfl rfl H1 ?_
 clear H1; intro a2 H2
 refine fin ?_
 refine then_n ?_
 refine wp_seq ?_
 refine wp_seq ?_
 refine reg ?_
 refine plain (y_move rfl rfl) rfl rfl rfl H2 ?_
 clear H2; intro a3 H3
 refine plain (y_len rfl Tryd.underlying67 rfl) rfl rfl rfl H3 ?_
 clear H3; intro a4 H4
 refine plain (y_gtr rfl rfl rfl) rfl rfl rfl H4 ?_
 clear H4; intro a5 H5
 refine fin ?_
 refine then_n ?_
 refine cnd_d H5 rfl (fun hc6 => ?_) (fun hc6 => ?_) -- cond 1
 ·skip
  refine wp_seq ?_
  refine reg ?_
  refine plain (y_assign rfl rfl) rfl rfl rfl H5 ?_
  clear H5; intro a7 H7
  refine plain (y_assign rfl rfl) rfl rfl rfl H7 ?_
  clear H7; intro a8 H8
  refine fin ?_
  refine then_n ?_
  refine wp_ret ?_
  refine then_r ?_
  -- return 1
  refine ret2 rfl H8 rfl rfl ?_
  exact ⟨_, [], rfl, ⟨by rw [Oct.list_big (by omega)], rfl⟩, H8.sep.sub (List.nil_sublist _)⟩
 ·skip
  refine wp_skip ?_
  refine then_n ?_
  refine wp_seq ?_
  refine reg ?_
  refine plain (y_move rfl rfl) rfl rfl rfl H5 ?_
  clear H5; intro a9 H9
  refine plain (y_len rfl Tryd.underlying67 rfl) rfl rfl rfl H9 ?_
  clear H9; intro a10 H10
  refine st_callg rfl z_call34 rfl rfl rfl rfl H10 (numR _ (by omega) _) ?_
  clear H10; intro a11 wx11 H11
  refine plain (y_move rfl rfl) rfl rfl rfl H11 ?_
  clear H11; intro a12 H12
  refine plain (y_extract rfl rfl rfl) rfl rfl rfl H12 ?_
  clear H12; intro a13 H13
  refine plain (y_extract rfl rfl rfl) rfl rfl rfl H13 ?_
  clear H13; intro a14 H14
  refine plain (y_assign rfl rfl) rfl rfl rfl H14 ?_
  clear H14; intro a15 H15
  refine plain (y_assign rfl rfl) rfl rfl rfl H15 ?_
  clear H15; intro a16 H16
  refine fin ?_
  refine then_n ?_
  refine wp_seq ?_
  refine reg ?_
  refine plain (y_move rfl rfl) rfl rfl rfl H16 ?_
  clear H16; intro a17 H17
  refine st_strb rfl Tryd.underlying9 Tryd.underlying66 Tryd.underlying5 rfl (by have := Oct.numL_le (m := l.length) (by omega); rw [Oct.number_nat]; dsimp only; unfold maxLen; omega) rfl rfl rfl H17 ?_
  clear H17; intro v18 a18 wx18 H18
  refine plain (y_assign rfl rfl) rfl rfl rfl H18 ?_
  clear H18; intro a19 H19
  refine fin ?_
  refine then_n ?_
  refine wp_seq ?_
  refine reg ?_
  refine plain (y_assign rfl rfl) rfl rfl rfl H19 ?_
  clear H19; intro a20 H20
  refine fin ?_
  refine then_n ?_
  refine wp_seq ?_
  refine wp_seq ?_
  refine reg ?_
  refine plain (y_assign rfl rfl) rfl rfl rfl H20 ?_
  clear H20; intro a21 H21
  refine fin ?_
  refine then_n ?_
  refine wp_block ?_
  simp only [Oct.number_nat] at H21
  refine loop (ι := Nat × Value) (fun x => [(0, .slice A l.length c), (6, x.2), (7, .int .i64 ((Oct.tf l x.1).length : Int)), (8, .int .i64 (x.1 : Int))]) (fun x => [It.row 5 1 x.2 (Oct.parts l x.1).flatten.length ((Oct.parts l x.1).flatten.map u8)]) (fun x => x.1 ≤ l.length ∧ (Oct.tf l x.1).length ≤ 65536) (fun x => l.length - x.1) ((0, v18)) (by simp [Oct.tf_zero]) (H21.weak ⟨rfl, rfl, fi rfl (by simp [Oct.tf_zero]), rfl, trivial⟩ (ir (by simp [Oct.parts]) (by simp [Oct.parts]))) ?_
  clear H21; intro x a22 wx22 hok22 H22
  obtain ⟨k, v⟩ := x
  dsimp only at hok22 H22
  have hok := hok22
  have hlk := fun h : k < l.length => Oct.len_le_flatten (l := l) (k := k) h
  have hpl := Oct.parts_len (l := l) (k := k) hok.1 (by omega) hok.2
  refine wp_seq ?_
  refine wp_seq ?_
  refine reg ?_
  refine plain (y_move rfl rfl) rfl rfl rfl H22 ?_
  clear H22; intro a23 H23
  refine plain (y_move rfl rfl) rfl rfl rfl H23 ?_
  clear H23; intro a24 H24
  refine plain (y_len rfl Tryd.underlying67 rfl) rfl rfl rfl H24 ?_
  clear H24; intro a25 H25
  refine plain (y_lss rfl rfl rfl) rfl rfl rfl H25 ?_
  clear H25; intro a26 H26
  refine fin ?_
  refine then_n ?_
  refine cnd_d H26 rfl (fun hc27 => ?_) (fun hc27 => ?_) -- cond 2
  ·skip
   refine wp_skip ?_
   refine then_n ?_
   refine wp_seq ?_
   refine wp_block ?_
   refine wp_seq ?_
   refine wp_seq ?_
   refine reg ?_
   refine plain (y_move rfl rfl) rfl rfl rfl H26 ?_
   clear H26; intro a28 H28
   refine plain (y_move rfl rfl) rfl rfl rfl H28 ?_
   clear H28; intro a29 H29
   refine plain (y_ixR rfl Tryd.underlying67 z_size9 rfl rfl (by omega) (by omega) (rd_old (by assumption) (by simp)) (by simp; omega)) rfl rfl rfl H29 ?_
   clear H29; intro a30 H30
   refine plain (y_loadR rfl z_agg9 rfl (rd_old (by assumption) (by simp)) (by simp only [Int.toNat_natCast, Nat.mul_one, Nat.add_zero]; exact map_get _ _ _ [] (by omega))) rfl rfl rfl H30 ?_
   clear H30; intro a31 H31
   refine plain (y_slen rfl Tryd.underlying9 rfl) rfl rfl rfl H31 ?_
   clear H31; intro a32 H32
   refine plain (y_move rfl rfl) rfl rfl rfl H32 ?_
   clear H32; intro a33 H33
   refine plain (y_sub rfl rfl rfl (by first | exact w64 (by omega) (by omega) | rfl)) rfl rfl rfl H33 ?_
   clear H33; intro a34 H34
   refine plain (y_gtr rfl rfl rfl) rfl rfl rfl H34 ?_
   clear H34; intro a35 H35
   refine fin ?_
   refine then_n ?_
   refine cnd_d H35 rfl (fun hc36 => ?_) (fun hc36 => ?_) -- cond 3
   ·skip
    refine wp_seq ?_
    refine reg ?_
    refine plain (y_assign rfl rfl) rfl rfl rfl H35 ?_
    clear H35; intro a37 H37
    refine plain (y_assign rfl rfl) rfl rfl rfl H37 ?_
    clear H37; intro a38 H38
    refine fin ?_
    refine then_n ?_
    refine wp_ret ?_
    refine then_r ?_
    refine inb_r ?_
    refine then_r ?_
    refine then_r ?_
    refine inb_r ?_
    refine then_r ?_
    -- return 2
    refine ret2 rfl H38 rfl rfl ?_
    exact ⟨_, [], rfl, ⟨by rw [Oct.list_long (by have := hlk (by omega); omega)], rfl⟩, H38.sep.sub (List.nil_sublist _)⟩
   ·skip
    refine wp_skip ?_
    refine then_n ?_
    refine wp_seq ?_
    refine reg ?_
    refine plain (y_move rfl rfl) rfl rfl rfl H35 ?_
    clear H35; intro a39 H39
    refine plain (y_move rfl rfl) rfl rfl rfl H39 ?_
    clear H39; intro a40 H40
    refine plain (y_move rfl rfl) rfl rfl rfl H40 ?_
    clear H40; intro a41 H41
    refine plain (y_ixR rfl Tryd.underlying67 z_size9 rfl rfl (by omega) (by omega) (rd_old (by assumption) (by simp)) (by simp; omega)) rfl rfl rfl H41 ?_
    clear H41; intro a42 H42
    refine plain (y_loadR rfl z_agg9 rfl (rd_old (by assumption) (by simp)) (by simp only [Int.toNat_natCast, Nat.mul_one, Nat.add_zero]; exact map_get _ _ _ [] (by omega))) rfl rfl rfl H42 ?_
    clear H42; intro a43 H43
    refine plain (y_slen rfl Tryd.underlying9 rfl) rfl rfl rfl H43 ?_
    clear H43; intro a44 H44
    refine plain (y_add rfl rfl rfl (by first | exact w64 (by omega) (by omega) | rfl)) rfl rfl rfl H44 ?_
    clear H44; intro a45 H45
    refine plain (y_assign rfl rfl) rfl rfl rfl H45 ?_
    clear H45; intro a46 H46
    refine fin ?_
    refine then_n ?_
    refine wp_seq ?_
    refine reg ?_
    refine plain (y_move rfl rfl) rfl rfl rfl H46 ?_
    clear H46; intro a47 H47
    refine plain (y_move rfl rfl) rfl rfl rfl H47 ?_
    clear H47; intro a48 H48
    refine plain (y_ixR rfl Tryd.underlying67 z_size9 rfl rfl (by omega) (by omega) (rd_old (by assumption) (by simp)) (by simp; omega)) rfl rfl rfl H48 ?_
    clear H48; intro a49 H49
    refine plain (y_loadR rfl z_agg9 rfl (rd_old (by assumption) (by simp)) (by simp only [Int.toNat_natCast, Nat.mul_one, Nat.add_zero]; exact map_get _ _ _ [] (by omega))) rfl rfl rfl H49 ?_
    clear H49; intro a50 H50
    refine st_callg rfl z_call54 rfl rfl rfl rfl H50 (txtR _ (by omega) _) ?_
    clear H50; intro a51 wx51 H51
    refine plain (y_move rfl rfl) rfl rfl rfl H51 ?_
    clear H51; intro a52 H52
    refine plain (y_extract rfl rfl rfl) rfl rfl rfl H52 ?_
    clear H52; intro a53 H53
    refine plain (y_extract rfl rfl rfl) rfl rfl rfl H53 ?_
    clear H53; intro a54 H54
    refine plain (y_assign rfl rfl) rfl rfl rfl H54 ?_
    clear H54; intro a55 H55
    refine plain (y_assign rfl rfl) rfl rfl rfl H55 ?_
    clear H55; intro a56 H56
    refine fin ?_
    refine then_n ?_
    refine reg ?_
    refine plain (y_move rfl rfl) rfl rfl rfl H56 ?_
    clear H56; intro a57 H57
    refine plain (y_move rfl rfl) rfl rfl rfl H57 ?_
    clear H57; intro a58 H58
    refine st_append rfl z_slice66 z_notint9 rfl rfl (fun _ => UU) (fun w _ => Src.text _) (by have := Oct.text_len (l.getD k []); unfold maxLen; omega) (by have := Oct.text_len (l.getD k []); omega) rfl rfl rfl H58 ?_
    clear H58; intro v59 a59 wx59 hnil59 H59
    refine plain (y_assign rfl rfl) rfl rfl rfl H59 ?_
    clear H59; intro a60 H60
    refine fin ?_
    refine inb_n ?_
    refine then_n ?_
    refine reg ?_
    refine plain (y_move rfl rfl) rfl rfl rfl H60 ?_
    clear H60; intro a61 H61
    refine plain (y_add rfl rfl rfl (by first | exact w64 (by omega) (by omega) | rfl)) rfl rfl rfl H61 ?_
    clear H61; intro a62 H62
    refine plain (y_assign rfl rfl) rfl rfl rfl H62 ?_
    clear H62; intro a63 H63
    refine fin ?_
    refine then_n ?_
    refine ⟨(k + 1, v59), by dsimp only; omega, by dsimp only; rw [Oct.tf_succ (by omega), List.length_append]; omega, H63.weak ⟨rfl, rfl, fi rfl (by rw [Oct.tf_succ (by omega)]; simp), fi rfl (by dsimp only; omega), trivial⟩ (ir ?_ ?_)⟩
    ·rw [Oct.parts_succ (by omega), Oct.text_ok (by omega)]; simp
    ·rw [Oct.parts_succ (by omega), Oct.text_ok (by omega)]; simp
  ·skip
   refine wp_exit ?_
   refine then_x ?_
   refine then_x ?_
   refine inb_hit ?_
   refine then_n ?_
   refine wp_seq ?_
   refine reg ?_
   refine plain (y_move rfl rfl) rfl rfl rfl H26 ?_
   clear H26; intro a64 H64
   obtain ⟨A2, c2, hv2, hR2, hm2⟩ := row_shape H64.sep MM
   subst hv2
   refine plain (y_bstr (p := (Oct.parts l k).flatten) rfl Tryd.underlying66 Tryd.underlying5 Tryd.underlying9 rfl rfl (rd_row MM)) rfl rfl rfl H64 ?_
   clear H64; intro a65 H65
   refine plain (y_assign rfl rfl) rfl rfl rfl H65 ?_
   clear H65; intro a66 H66
   refine plain (y_assign rfl rfl) rfl rfl rfl H66 ?_
   clear H66; intro a67 H67
   refine fin ?_
   refine then_n ?_
   refine wp_ret ?_
   -- return 3
   refine ret2 rfl H67 rfl rfl ?_
   exact ⟨_, [], rfl, ⟨by rw [Oct.parts_flatten (by omega), Oct.list_ok (by omega) (by have := Oct.tf_all (l := l) (k := k) (by omega); rw [this] at hok; omega)], rfl⟩, H67.sep.sub (List.nil_sublist _)⟩

end Go.Proofs.YtlhddgkbbdfacaaDoor.C_Num

set_option linter.unusedVariables false
set_option linter.unusedSimpArgs false
namespace Go.Proofs.YtlhddgkbbdfacaaDoor.C_Lay
open Go.Sx Go.RowKit Go.Proofs.YtlhddgkbbdfacaaDoor.C_Num

theorem z_size3 : sizeB Tryd.prog 3 = some 1 := by kernel_rfl
theorem z_agg3 : aggB Tryd.prog 3 = some false := by kernel_rfl
theorem z_call30 : callB Tryd.prog 30 = true := by kernel_rfl
theorem z_size9 : sizeB Tryd.prog 9 = some 1 := by kernel_rfl
theorem z_zero9 : zeroL Tryd.prog 9 = some ([.string ⟨#[]⟩]) := by kernel_rfl
theorem z_slice67 : sliceB Tryd.prog 67 = some (9, 1, 16) := by kernel_rfl
theorem z_notint67 : notIntB Tryd.prog 67 = true := by kernel_rfl
theorem z_call32 : callB Tryd.prog 32 = true := by kernel_rfl

set_option maxRecDepth 100000 in
set_option maxHeartbeats 1000000 in
theorem nnum (ns : List Int) (A : Option Addr) (m c : Nat) (hm : m = ns.length) (hl : ns.length ≤ 1000) {w : World} (hR : Rd w A (ns.map i64)) : Calls Tryd.prog 60 #[.slice A m c] w (Gives (.bool (Note.nums ns)) [] w) := by
 subst hm
 have lz32 : (List.replicate 32 (0 : UInt8)).length = 32 := List.length_replicate
 refine enterL (args := [.slice A ns.length c]) Tryd.func60 rfl rfl (l := []) (Sep.refl _) ?_
 intro a0 H0
 refine wp_seq ?_
 refine reg ?_
 refine plain (y_assign rfl rfl) rfl rfl rfl H0 ?_
 clear H0; intro a1 H1
 refine fin ?_
 refine then_n ?_
 refine wp_seq ?_
 refine wp_seq ?_
 refine reg ?_
 refine plain (y_move rfl rfl) rfl rfl rfl H1 ?_
 clear H1; intro a2 H2
 refine plain (y_len rfl Tryd.underlying105 rfl) rfl rfl rfl H2 ?_
 clear H2; intro a3 H3
 refine plain (y_move rfl rfl) rfl rfl rfl H3 ?_
 clear H3; intro a4 H4
 refine fin ?_
 refine then_n ?_
 refine wp_block ?_
 refine loop (ι := Nat) (fun k => [(5, .slice A ns.length c), (6, .int .i64 (ns.length : Int)), (7, .int .i64 (k : Int))]) (fun k => []) (fun k => k ≤ ns.length ∧ (ns.take k).all Note.okNum = true) (fun k => ns.length - k) (0) ⟨Nat.zero_le _, rfl⟩ (H4.weak ⟨rfl, rfl, rfl, trivial⟩ rfl) ?_
 clear H4; intro k a5 wx5 hok5 H5
 have hok := hok5
 refine wp_seq ?_
 refine reg ?_
 refine plain (y_lss rfl rfl rfl) rfl rfl rfl H5 ?_
 clear H5; intro a6 H6
 refine fin ?_
 refine then_n ?_
 refine wp_seq ?_
 refine cnd H6 rfl (fun hc7 => ?_) (fun hc7 => ?_) -- cond 1
 ·skip
  try simp only [decide_eq_true_eq, decide_eq_false_iff_not, Bool.not_eq_true', Bool.not_eq_false', Bool.and_eq_true, Bool.not_eq_true, Bool.not_eq_false] at hc7
  refine wp_skip ?_
  refine then_n ?_
  refine wp_seq ?_
  refine wp_block ?_
  refine wp_seq ?_
  refine reg ?_
  refine plain (y_ixR rfl Tryd.underlying105 z_size3 rfl rfl (by omega) (by omega) (rd_old (by assumption) (by simp)) (by rw [List.length_map]; omega)) rfl rfl rfl H6 ?_
  clear H6; intro a8 H8
  refine plain (y_loadR rfl z_agg3 rfl (rd_old (by assumption) (by simp)) (by rw [Nat.mul_one]; exact i64_get ns (k : Int).toNat (by omega))) rfl rfl rfl H8 ?_
  clear H8; intro a9 H9
  refine plain (y_assign rfl rfl) rfl rfl rfl H9 ?_
  clear H9; intro a10 H10
  refine fin ?_
  refine then_n ?_
  refine wp_seq ?_
  refine reg ?_
  refine plain (y_move rfl rfl) rfl rfl rfl H10 ?_
  clear H10; intro a11 H11
  refine plain (y_lss rfl rfl rfl) rfl rfl rfl H11 ?_
  clear H11; intro a12 H12
  refine plain (y_move rfl rfl) rfl rfl rfl H12 ?_
  clear H12; intro a13 H13
  refine Sx.part (d := 13) H13 rfl (fun hg14 => ?_) (fun hg14 => ?_)
  ·first
   |fail
   |skip
    clear H13; intro H15
    try simp only [decide_eq_true_eq, decide_eq_false_iff_not, Bool.not_eq_true', Bool.not_eq_false', Bool.and_eq_true, Bool.not_eq_true, Bool.not_eq_false] at hg14
    refine skip rfl rfl rfl H15 ?_
    clear H15; intro a16 H16
    refine skip rfl rfl rfl H16 ?_
    clear H16; intro a17 H17
    refine plain (y_pick_t rfl rfl rfl) rfl rfl rfl H17 ?_
    clear H17; intro a18 H18
    refine fin ?_
    refine then_n ?_
    refine cnd_t H18 rfl ?_
    refine wp_seq ?_
    refine reg ?_
    refine plain (y_assign rfl rfl) rfl rfl rfl H18 ?_
    clear H18; intro a20 H20
    refine fin ?_
    refine then_n ?_
    refine wp_ret ?_
    refine inb_r ?_
    refine then_r ?_
    refine then_r ?_
    refine inb_r ?_
    refine then_r ?_
    -- return 1
    refine ret1 rfl H20 rfl ?_
    exact ⟨_, [], rfl, ⟨by rw [Note.nums_bad (k := k) (by omega) (by simp only [Int.toNat_natCast] at *; omega)], rfl⟩, H20.sep.sub (List.nil_sublist _)⟩
  ·first
   |fail
   |skip
    clear H13; intro H21
    try simp only [decide_eq_true_eq, decide_eq_false_iff_not, Bool.not_eq_true', Bool.not_eq_false', Bool.and_eq_true, Bool.not_eq_true, Bool.not_eq_false] at hg14
    refine plain (y_move rfl rfl) rfl rfl rfl H21 ?_
    clear H21; intro a22 H22
    refine plain (y_gtr rfl rfl rfl) rfl rfl rfl H22 ?_
    clear H22; intro a23 H23
    refine plain (y_pick_f rfl rfl rfl) rfl rfl rfl H23 ?_
    clear H23; intro a24 H24
    refine fin ?_
    refine then_n ?_
    refine cnd H24 rfl (fun hc25 => ?_) (fun hc25 => ?_) -- cond 3
    ·skip
     try simp only [decide_eq_true_eq, decide_eq_false_iff_not, Bool.not_eq_true', Bool.not_eq_false', Bool.and_eq_true, Bool.not_eq_true, Bool.not_eq_false] at hc25
     refine wp_seq ?_
     refine reg ?_
     refine plain (y_assign rfl rfl) rfl rfl rfl H24 ?_
     clear H24; intro a26 H26
     refine fin ?_
     refine then_n ?_
     refine wp_ret ?_
     refine inb_r ?_
     refine then_r ?_
     refine then_r ?_
     refine inb_r ?_
     refine then_r ?_
     -- return 2
     refine ret1 rfl H26 rfl ?_
     exact ⟨_, [], rfl, ⟨by rw [Note.nums_bad (k := k) (by omega) (by simp only [Int.toNat_natCast] at *; omega)], rfl⟩, H26.sep.sub (List.nil_sublist _)⟩
    ·skip
     try simp only [decide_eq_true_eq, decide_eq_false_iff_not, Bool.not_eq_true', Bool.not_eq_false', Bool.and_eq_true, Bool.not_eq_true, Bool.not_eq_false] at hc25
     refine wp_skip ?_
     refine inb_n ?_
     refine then_n ?_
     refine reg ?_
     refine plain (y_add rfl rfl rfl (by first | exact w64 (by omega) (by omega) | rfl)) rfl rfl rfl H24 ?_
     clear H24; intro a27 H27
     refine plain (y_move rfl rfl) rfl rfl rfl H27 ?_
     clear H27; intro a28 H28
     refine fin ?_
     refine then_n ?_
     refine ⟨k + 1, by omega, ⟨by omega, Note.take_all 0 (by omega) hok.2 ?_⟩, H28.weak ⟨rfl, rfl, fi rfl (by omega), trivial⟩ rfl⟩
     simp only [Int.toNat_natCast, Note.okNum, decide_eq_true_eq] at *
     omega
 ·skip
  try simp only [decide_eq_true_eq, decide_eq_false_iff_not, Bool.not_eq_true', Bool.not_eq_false', Bool.and_eq_true, Bool.not_eq_true, Bool.not_eq_false] at hc7
  refine wp_exit ?_
  refine then_x ?_
  refine then_x ?_
  refine inb_hit ?_
  refine then_n ?_
  refine wp_seq ?_
  refine reg ?_
  refine plain (y_assign rfl rfl) rfl rfl rfl H6 ?_
  clear H6; intro a29 H29
  refine fin ?_
  refine then_n ?_
  refine wp_ret ?_
  -- return 3
  refine ret1 rfl H29 rfl ?_
  exact ⟨_, [], rfl, ⟨by rw [Note.nums_all (k := k) (by omega) hok.2], rfl⟩, H29.sep.sub (List.nil_sublist _)⟩
set_option maxRecDepth 100000 in
set_option maxHeartbeats 1000000 in
theorem nlay (ns : List Int) (A : Option Addr) (m c : Nat) (hm : m = ns.length) (hl : ns.length ≤ 1000) (hb : ∀ x ∈ ns, x ≤ 9223372036854775807) {w : World} (hR : Rd w A (ns.map i64)) : Calls Tryd.prog 47 #[.slice A m c] w (Post [] w (fun u l => l = [It.row 9 1 u ns.length ((ns.map Note.num).map str)])) := by
 subst hm
 have lz32 : (List.replicate 32 (0 : UInt8)).length = 32 := List.length_replicate
 refine enterL (args := [.slice A ns.length c]) Tryd.func47 rfl rfl (l := []) (Sep.refl _) ?_
 intro a0 H0
 refine wp_seq ?_
 refine reg ?_
 refine plain (y_assign rfl rfl) rfl rfl rfl H0 ?_
 clear H0; intro a1 H1
 refine fin ?_
 refine then_n ?_
 refine wp_seq ?_
 refine reg ?_
 refine plain (y_assign rfl rfl) rfl rfl rfl H1 ?_
 clear H1; intro a2 H2
 refine fin ?_
 refine then_n ?_
 refine wp_seq ?_
 refine wp_seq ?_
 refine reg ?_
 refine plain (y_move rfl rfl) rfl rfl rfl H2 ?_
 clear H2; intro a3 H3
 refine plain (y_len rfl Tryd.underlying105 rfl) rfl rfl rfl H3 ?_
 clear H3; intro a4 H4
 refine plain (y_move rfl rfl) rfl rfl rfl H4 ?_
 clear H4; intro a5 H5
 refine fin ?_
 refine then_n ?_
 refine wp_block ?_
 replace H5 := H5.nilRow 9 1
 refine loop (ι := Nat × Value) (fun x => [(3, x.2), (8, .slice A ns.length c), (9, .int .i64 (ns.length : Int)), (10, .int .i64 (x.1 : Int))]) (fun x => [It.row 9 1 x.2 x.1 (((ns.take x.1).map Note.num).map str)]) (fun x => x.1 ≤ ns.length) (fun x => ns.length - x.1) ((0, .slice none 0 0)) (Nat.zero_le _) (H5.weak ⟨rfl, rfl, rfl, rfl, trivial⟩ rfl) ?_
 clear H5; intro x a6 wx6 hok6 H6
 obtain ⟨k, v⟩ := x
 dsimp only at hok6 H6
 have hok := hok6
 obtain ⟨Av, cv, hv, hRv, hmv⟩ := row_shape (v := v) H6.sep MM
 subst hv
 refine wp_seq ?_
 refine reg ?_
 refine plain (y_lss rfl rfl rfl) rfl rfl rfl H6 ?_
 clear H6; intro a7 H7
 refine fin ?_
 refine then_n ?_
 refine wp_seq ?_
 refine cnd H7 rfl (fun hc8 => ?_) (fun hc8 => ?_) -- cond 1
 ·skip
  try simp only [decide_eq_true_eq, decide_eq_false_iff_not, Bool.not_eq_true', Bool.not_eq_false', Bool.and_eq_true, Bool.not_eq_true, Bool.not_eq_false] at hc8
  refine wp_skip ?_
  refine then_n ?_
  refine wp_seq ?_
  refine wp_block ?_
  refine wp_seq ?_
  refine reg ?_
  refine plain (y_ixR rfl Tryd.underlying105 z_size3 rfl rfl (by omega) (by omega) (rd_old (by assumption) (by simp)) (by rw [List.length_map]; omega)) rfl rfl rfl H7 ?_
  clear H7; intro a9 H9
  refine plain (y_loadR rfl z_agg3 rfl (rd_old (by assumption) (by simp)) (by rw [Nat.mul_one]; exact i64_get ns (k : Int).toNat (by omega))) rfl rfl rfl H9 ?_
  clear H9; intro a10 H10
  refine plain (y_assign rfl rfl) rfl rfl rfl H10 ?_
  clear H10; intro a11 H11
  refine fin ?_
  refine then_n ?_
  refine wp_seq ?_
  refine reg ?_
  refine plain (y_move rfl rfl) rfl rfl rfl H11 ?_
  clear H11; intro a12 H12
  refine st_callg rfl z_call30 rfl rfl rfl rfl H12 (num _ (by have := hb (ns.getD k 0) (by rw [Oct.getD_eq 0 (by omega)]; exact List.getElem_mem _); simpa using this) _) ?_
  clear H12; intro a13 wx13 H13
  refine plain (y_move rfl rfl) rfl rfl rfl H13 ?_
  clear H13; intro a14 H14
  refine plain (y_extract rfl rfl rfl) rfl rfl rfl H14 ?_
  clear H14; intro a15 H15
  refine plain (y_extract rfl rfl rfl) rfl rfl rfl H15 ?_
  clear H15; intro a16 H16
  refine plain (y_assign rfl rfl) rfl rfl rfl H16 ?_
  clear H16; intro a17 H17
  refine plain (y_assign rfl rfl) rfl rfl rfl H17 ?_
  clear H17; intro a18 H18
  refine fin ?_
  refine then_n ?_
  refine reg ?_
  refine plain (y_move rfl rfl) rfl rfl rfl H18 ?_
  clear H18; intro a19 H19
  refine plain (y_move rfl rfl) rfl rfl rfl H19 ?_
  clear H19; intro a20 H20
  refine st_buildSlice1 (xs := [.tmp 20]) rfl Tryd.underlying67 z_size9 z_zero9 rfl rfl rfl rfl rfl rfl rfl rfl rfl H20 ?_
  clear H20; intro b21 a21 wx21 H21
  refine st_append rfl z_slice67 z_notint67 rfl rfl (fun _ => UU) (fun w hs => Src.slice ((rd_blkA MM) w hs) rfl (by simp [Value.oneCell'])) (by unfold maxLen at *; first | omega | (simp only [List.length_cons, List.length_nil, List.length_append, List.length_map]; omega)) (by first | omega | (simp only [List.length_cons, List.length_nil, List.length_append, List.length_map]; omega)) rfl rfl rfl H21 ?_
  clear H21; intro v22 a22 wx22 hnil22 H22
  obtain ⟨Ar22, cr22, hvr22, hRr22, hmr22⟩ := row_shape (v := v22) H22.sep MM
  subst hvr22
  refine plain (y_assign rfl rfl) rfl rfl rfl H22 ?_
  clear H22; intro a23 H23
  refine fin ?_
  refine inb_n ?_
  refine then_n ?_
  refine reg ?_
  refine plain (y_add rfl rfl rfl (by first | exact w64 (by omega) (by omega) | rfl)) rfl rfl rfl H23 ?_
  clear H23; intro a24 H24
  refine plain (y_move rfl rfl) rfl rfl rfl H24 ?_
  clear H24; intro a25 H25
  refine fin ?_
  refine then_n ?_
  refine ⟨(k + 1, (.slice Ar22 _ cr22)), by dsimp only; omega, by dsimp only; omega, (H25.drop (List.Sublist.cons _ (List.Sublist.refl _))).weak ⟨rfl, rfl, rfl, fi rfl (by dsimp only; omega), trivial⟩ (ir (by dsimp only) ?_)⟩
  rw [Oct.take_succ 0 (by omega), List.map_append, List.map_append]
  rfl
 ·skip
  try simp only [decide_eq_true_eq, decide_eq_false_iff_not, Bool.not_eq_true', Bool.not_eq_false', Bool.and_eq_true, Bool.not_eq_true, Bool.not_eq_false] at hc8
  refine wp_exit ?_
  refine then_x ?_
  refine then_x ?_
  refine inb_hit ?_
  refine then_n ?_
  refine wp_seq ?_
  refine reg ?_
  refine plain (y_move rfl rfl) rfl rfl rfl H7 ?_
  clear H7; intro a26 H26
  refine plain (y_assign rfl rfl) rfl rfl rfl H26 ?_
  clear H26; intro a27 H27
  refine fin ?_
  refine then_n ?_
  refine wp_ret ?_
  -- return 1
  refine ret1 rfl H27 rfl ?_
  refine ⟨_, _, rfl, ?_, H27.sep⟩
  rw [show k = ns.length by omega, List.take_length]
set_option maxRecDepth 100000 in
set_option maxHeartbeats 1000000 in
theorem nwrite (l : List (List UInt8)) (A : Option Addr) (m c : Nat) (hm : m = l.length) {w : World} (hR : Rd w A (l.map str)) (hl : l.length ≤ 9223372036854775807) : Calls Tryd.prog 46 #[.slice A m c] w (Gives (.tuple #[str (Oct.list l).1, .int .i64 (Oct.list l).2]) [] w) := by
 subst hm
 have lz32 : (List.replicate 32 (0 : UInt8)).length = 32 := List.length_replicate
 refine enterL (args := [.slice A l.length c]) Tryd.func46 rfl rfl (l := []) (Sep.refl _) ?_
 intro a0 H0
 refine wp_seq ?_
 refine reg ?_
 refine plain (y_assign rfl rfl) rfl rfl rfl H0 ?_
 clear H0; intro a1 H1
 refine plain (y_assign rfl rfl) rfl rfl rfl H1 ?_
 clear H1; intro a2 H2
 refine fin ?_
 refine then_n ?_
 refine wp_seq ?_
 refine reg ?_
 refine plain (y_move rfl rfl) rfl rfl rfl H2 ?_
 clear H2; intro a3 H3
 refine st_callg rfl z_call32 rfl rfl rfl rfl H3 (lst l A _ c rfl (Rd.frm hR H3.sep.frm (by simp)) hl) ?_
 clear H3; intro a4 wx4 H4
 refine plain (y_move rfl rfl) rfl rfl rfl H4 ?_
 clear H4; intro a5 H5
 refine plain (y_extract rfl rfl rfl) rfl rfl rfl H5 ?_
 clear H5; intro a6 H6
 refine plain (y_extract rfl rfl rfl) rfl rfl rfl H6 ?_
 clear H6; intro a7 H7
 refine plain (y_assign rfl rfl) rfl rfl rfl H7 ?_
 clear H7; intro a8 H8
 refine plain (y_assign rfl rfl) rfl rfl rfl H8 ?_
 clear H8; intro a9 H9
 refine fin ?_
 refine then_n ?_
 refine wp_seq ?_
 refine wp_seq ?_
 refine reg ?_
 refine plain (y_move rfl rfl) rfl rfl rfl H9 ?_
 clear H9; intro a10 H10
 refine plain (y_neq rfl rfl rfl) rfl rfl rfl H10 ?_
 clear H10; intro a11 H11
 refine fin ?_
 refine then_n ?_
 refine cnd H11 rfl (fun hc12 => ?_) (fun hc12 => ?_) -- cond 1
 ·skip
  try simp only [decide_eq_true_eq, decide_eq_false_iff_not, Bool.not_eq_true', Bool.not_eq_false', Bool.and_eq_true, Bool.not_eq_true, Bool.not_eq_false] at hc12
  refine wp_seq ?_
  refine reg ?_
  refine plain (y_assign rfl rfl) rfl rfl rfl H11 ?_
  clear H11; intro a13 H13
  refine plain (y_assign rfl rfl) rfl rfl rfl H13 ?_
  clear H13; intro a14 H14
  refine fin ?_
  refine then_n ?_
  refine wp_ret ?_
  refine then_r ?_
  -- return 1
  refine ret2 rfl H14 rfl rfl ?_
  exact ⟨_, [], rfl, ⟨by rw [Note.list_bad (by assumption)], rfl⟩, H14.sep.sub (List.nil_sublist _)⟩
 ·skip
  try simp only [decide_eq_true_eq, decide_eq_false_iff_not, Bool.not_eq_true', Bool.not_eq_false', Bool.and_eq_true, Bool.not_eq_true, Bool.not_eq_false] at hc12
  refine wp_skip ?_
  refine then_n ?_
  refine wp_seq ?_
  refine reg ?_
  refine plain (y_move rfl rfl) rfl rfl rfl H11 ?_
  clear H11; intro a15 H15
  refine plain (y_assign rfl rfl) rfl rfl rfl H15 ?_
  clear H15; intro a16 H16
  refine plain (y_assign rfl rfl) rfl rfl rfl H16 ?_
  clear H16; intro a17 H17
  refine fin ?_
  refine then_n ?_
  refine wp_ret ?_
  -- return 2
  refine ret2 rfl H17 rfl rfl ?_
  exact ⟨_, [], rfl, ⟨by rw [Note.list_fine (by assumption)], rfl⟩, H17.sep.sub (List.nil_sublist _)⟩

end Go.Proofs.YtlhddgkbbdfacaaDoor.C_Lay

set_option linter.unusedVariables false
set_option linter.unusedSimpArgs false
namespace Go.Proofs.YtlhddgkbbdfacaaDoor.C_Leaf
open Go.Sx Go.RowKit Go.Proofs.YtlhddgkbbdfacaaDoor.C_Block Go.Proofs.YtlhddgkbbdfacaaDoor.C_Sum Go.Proofs.YtlhddgkbbdfacaaDoor.C_Ref Go.Proofs.YtlhddgkbbdfacaaDoor.C_RSum

theorem z_size5 : sizeB Tryd.prog 5 = some 1 := by kernel_rfl
theorem z_zero5 : zeroL Tryd.prog 5 = some ([.int .u8 0]) := by kernel_rfl
theorem z_agg5 : aggB Tryd.prog 5 = some false := by kernel_rfl
theorem z_slice66 : sliceB Tryd.prog 66 = some (5, 1, 1) := by kernel_rfl
theorem z_notint66 : notIntB Tryd.prog 66 = true := by kernel_rfl

set_option maxRecDepth 100000 in
set_option maxHeartbeats 1000000 in
theorem rbytes (h : List UInt8) (hh : h.length = 32) (w : World) : Calls Tryd.prog 35 #[.agg (h.map u8).toArray] w (Gives (str h) [] w) := by
 refine enterL (args := [.agg (h.map u8).toArray]) Tryd.func35 rfl rfl (l := []) (Sep.refl _) ?_
 intro a0 H0
 refine wp_seq ?_
 refine reg ?_
 refine st_box rfl rfl rfl rfl rfl rfl H0 ?_
 clear H0; intro b1 a1 wx1 H1
 refine plain (y_assign rfl rfl) rfl rfl rfl H1 ?_
 clear H1; intro a2 H2
 refine fin ?_
 refine then_n ?_
 refine wp_seq ?_
 refine reg ?_
 refine st_buildSlice1 (xs := []) rfl Tryd.underlying66 z_size5 z_zero5 rfl rfl rfl rfl rfl rfl rfl rfl rfl H2 ?_
 clear H2; intro b3 a3 wx3 H3
 refine plain (y_assign rfl rfl) rfl rfl rfl H3 ?_
 clear H3; intro a4 H4
 refine fin ?_
 refine then_n ?_
 refine wp_seq ?_
 refine wp_seq ?_
 refine reg ?_
 refine plain (y_assign rfl rfl) rfl rfl rfl H4 ?_
 clear H4; intro a5 H5
 refine fin ?_
 refine then_n ?_
 refine wp_block ?_
 replace H5 := H5.asRow (size := 1) (m := 0) UU rfl (by unfold maxLen; omega)
 refine loop (ι := Nat × Value) (fun x => [(1, .pointer (some ⟨b1, 0, none⟩)), (3, x.2), (4, .int .i64 (x.1 : Int))]) (fun x => [It.row 5 1 x.2 x.1 ((h.take x.1).map u8), It.blk b1 23 (h.map u8)]) (fun x => x.1 ≤ 32) (fun x => 32 - x.1) ((0, .slice (some ⟨b3, 0, none⟩) 0 0)) (Nat.zero_le _) (H5.weak ⟨rfl, rfl, rfl, trivial⟩ (by rw [List.take_zero]; rfl)) ?_
 clear H5; intro x a6 wx6 hok6 H6
 obtain ⟨k, v⟩ := x
 dsimp only at hok6 H6
 have hok := hok6
 obtain ⟨A0, c0, hv0, hR0, hm0⟩ := row_shape (v := v) H6.sep MM
 subst hv0
 refine wp_seq ?_
 refine wp_seq ?_
 refine reg ?_
 refine plain (y_move rfl rfl) rfl rfl rfl H6 ?_
 clear H6; intro a7 H7
 refine plain (y_lss rfl rfl rfl) rfl rfl rfl H7 ?_
 clear H7; intro a8 H8
 refine fin ?_
 refine then_n ?_
 refine cnd_d H8 rfl (fun hc9 => ?_) (fun hc9 => ?_) -- cond 1
 ·skip
  refine wp_skip ?_
  refine then_n ?_
  refine wp_seq ?_
  refine wp_block ?_
  refine reg ?_
  refine plain (y_move rfl rfl) rfl rfl rfl H8 ?_
  clear H8; intro a10 H10
  refine plain (y_move rfl rfl) rfl rfl rfl H10 ?_
  clear H10; intro a11 H11
  refine plain (y_ixA rfl Tryd.underlying23 z_size5 rfl rfl (by omega) (by omega) rfl) rfl rfl rfl H11 ?_
  clear H11; intro a12 H12
  refine plain (y_loadB rfl z_agg5 rfl MM (by rw [show 0 + (k : Int).toNat * 1 = k by omega]; exact map_get u8 _ _ 0 (by omega))) rfl rfl rfl H12 ?_
  clear H12; intro a13 H13
  refine st_buildSlice1 (xs := [.tmp 13]) rfl Tryd.underlying66 z_size5 z_zero5 rfl rfl rfl rfl rfl rfl rfl rfl rfl H13 ?_
  clear H13; intro b14 a14 wx14 H14
  refine st_append rfl z_slice66 z_notint66 rfl rfl (fun _ => UU) (fun w hs => Src.slice ((rd_blkA MM) w hs) rfl (by simp [Value.oneCell'])) (by unfold maxLen; omega) (by omega) rfl rfl rfl H14 ?_
  clear H14; intro v15 a15 wx15 hnil15 H15
  refine plain (y_assign rfl rfl) rfl rfl rfl H15 ?_
  clear H15; intro a16 H16
  refine fin ?_
  refine inb_n ?_
  refine then_n ?_
  refine reg ?_
  refine plain (y_move rfl rfl) rfl rfl rfl H16 ?_
  clear H16; intro a17 H17
  refine plain (y_add rfl rfl rfl (by first | exact w64 (by omega) (by omega) | rfl)) rfl rfl rfl H17 ?_
  clear H17; intro a18 H18
  refine plain (y_assign rfl rfl) rfl rfl rfl H18 ?_
  clear H18; intro a19 H19
  refine fin ?_
  refine then_n ?_
  refine ⟨(k + 1, v15), by dsimp only; omega, by dsimp only; omega, (H19.drop (List.Sublist.cons _ (List.Sublist.refl _))).weak ⟨rfl, rfl, fi rfl (by dsimp only; omega), trivial⟩ (ir2 (by first | (simp; omega) | simp) ?_ rfl)⟩
  rw [Oct.take_succ 0 (by omega), List.map_append]
  rfl
 ·skip
  refine wp_exit ?_
  refine then_x ?_
  refine then_x ?_
  refine inb_hit ?_
  refine then_n ?_
  refine wp_seq ?_
  refine reg ?_
  refine plain (y_move rfl rfl) rfl rfl rfl H8 ?_
  clear H8; intro a20 H20
  refine plain (y_bstr (p := h.take k) rfl Tryd.underlying66 Tryd.underlying5 Tryd.underlying9 rfl (by rw [List.length_take]; omega) (rd_row MM)) rfl rfl rfl H20 ?_
  clear H20; intro a21 H21
  refine plain (y_assign rfl rfl) rfl rfl rfl H21 ?_
  clear H21; intro a22 H22
  refine fin ?_
  refine then_n ?_
  refine wp_ret ?_
  -- return 1
  refine ret1 rfl H22 rfl ?_
  exact ⟨_, [], rfl, ⟨by rw [List.take_of_length_le (by omega)], rfl⟩, H22.sep.sub (List.nil_sublist _)⟩

end Go.Proofs.YtlhddgkbbdfacaaDoor.C_Leaf

set_option linter.unusedVariables false
set_option linter.unusedSimpArgs false
namespace Go.Proofs.YtlhddgkbbdfacaaDoor.C_Item
open Go.Sx Go.RowKit Go.Proofs.YtlhddgkbbdfacaaDoor.C_Num Go.Proofs.YtlhddgkbbdfacaaDoor.C_Lay

theorem z_field69_1 : fieldB Tryd.prog 69 1 = some 1 := by kernel_rfl
theorem z_agg3 : aggB Tryd.prog 3 = some false := by kernel_rfl
theorem q_ix_c4_1 {a0 a1 a2 a3 : Value} : (a0 :: a1 :: a2 :: a3 :: [])[1]? = some a1 := (ix_c (o := 0) ix_0)
theorem z_field69_2 : fieldB Tryd.prog 69 2 = some 2 := by kernel_rfl
theorem q_ix_c4_2 {a0 a1 a2 a3 : Value} : (a0 :: a1 :: a2 :: a3 :: [])[2]? = some a2 := (ix_c (o := 1) (ix_c (o := 0) ix_0))
theorem z_size3 : sizeB Tryd.prog 3 = some 1 := by kernel_rfl
theorem z_zero3 : zeroL Tryd.prog 3 = some ([.int .i64 0]) := by kernel_rfl
theorem z_call60 : callB Tryd.prog 60 = true := by kernel_rfl
theorem z_field69_3 : fieldB Tryd.prog 69 3 = some 3 := by kernel_rfl
theorem z_agg9 : aggB Tryd.prog 9 = some false := by kernel_rfl
theorem q_ix_c4_3 {a0 a1 a2 a3 : Value} : (a0 :: a1 :: a2 :: a3 :: [])[3]? = some a3 := (ix_c (o := 2) (ix_c (o := 1) (ix_c (o := 0) ix_0)))
theorem z_field69_0 : fieldB Tryd.prog 69 0 = some 0 := by kernel_rfl
theorem q_ix_c4_0 {a0 a1 a2 a3 : Value} : (a0 :: a1 :: a2 :: a3 :: [])[0]? = some a0 := ix_0
theorem z_agg69 : aggB Tryd.prog 69 = some true := by kernel_rfl
theorem z_size69 : sizeB Tryd.prog 69 = some 4 := by kernel_rfl
theorem q_ld_c4_0_4 {a0 a1 a2 a3 : Value} : ((a0 :: a1 :: a2 :: a3 :: []).drop 0).take 4 = a0 :: a1 :: a2 :: a3 :: [] := (ld_a (len_c (n := 3) (len_c (n := 2) (len_c (n := 1) (len_c (n := 0) len_n)))))
theorem q_len_c4 {a0 a1 a2 a3 : Value} : (a0 :: a1 :: a2 :: a3 :: []).length = 4 := (len_c (n := 3) (len_c (n := 2) (len_c (n := 1) (len_c (n := 0) len_n))))
theorem z_call45 : callB Tryd.prog 45 = true := by kernel_rfl
theorem z_call47 : callB Tryd.prog 47 = true := by kernel_rfl
theorem z_size9 : sizeB Tryd.prog 9 = some 1 := by kernel_rfl
theorem z_zero9 : zeroL Tryd.prog 9 = some ([.string ⟨#[]⟩]) := by kernel_rfl
theorem z_slice67 : sliceB Tryd.prog 67 = some (9, 1, 16) := by kernel_rfl
theorem z_notint67 : notIntB Tryd.prog 67 = true := by kernel_rfl
theorem z_call46 : callB Tryd.prog 46 = true := by kernel_rfl

set_option maxRecDepth 100000 in
set_option maxHeartbeats 1000000 in
theorem nitem (i : Note.Item) (wf : Note.Item.Wf i) (w : World) : Calls Tryd.prog 45 #[.agg (Note.Item.cells i).toArray] w (Gives (.bool i.ok) [] w) := by
 have lz32 : (List.replicate 32 (0 : UInt8)).length = 32 := List.length_replicate
 refine enterL (args := [.agg (Note.Item.cells i).toArray]) Tryd.func45 rfl rfl (l := []) (Sep.refl _) ?_
 intro a0 H0
 refine wp_seq ?_
 refine reg ?_
 refine st_box rfl rfl (agg_cells _) rfl rfl rfl H0 ?_
 clear H0; intro b1 a1 wx1 H1
 refine plain (y_assign rfl rfl) rfl rfl rfl H1 ?_
 clear H1; intro a2 H2
 refine fin ?_
 refine then_n ?_
 refine wp_seq ?_
 refine wp_seq ?_
 refine reg ?_
 refine plain (y_fieldB rfl z_field69_1 rfl (by first | (simp only [Nat.zero_add, Nat.add_zero, Nat.reduceAdd]; rfl) | rfl)) rfl rfl rfl H2 ?_
 clear H2; intro a3 H3
 refine plain (y_loadB rfl z_agg3 rfl MM q_ix_c4_1) rfl rfl rfl H3 ?_
 clear H3; intro a4 H4
 refine plain (y_fieldB rfl z_field69_2 rfl (by first | (simp only [Nat.zero_add, Nat.add_zero, Nat.reduceAdd]; rfl) | rfl)) rfl rfl rfl H4 ?_
 clear H4; intro a5 H5
 refine plain (y_loadB rfl z_agg3 rfl MM q_ix_c4_2) rfl rfl rfl H5 ?_
 clear H5; intro a6 H6
 refine st_buildSlice1 (xs := [.tmp 4, .tmp 6]) rfl Tryd.underlying105 z_size3 z_zero3 rfl rfl rfl rfl rfl rfl rfl rfl rfl H6 ?_
 clear H6; intro b7 a7 wx7 H7
 refine st_callg rfl z_call60 rfl rfl rfl rfl H7 (nnum [i.who, i.n] _ _ _ rfl (by simp) (Rd.ofSep (rd_blkA MM) H7.sep)) ?_
 clear H7; intro a8 wx8 H8
 rw [Note.nums2] at H8
 refine plain ((by first | exact y_not_d rfl rfl | exact y_not rfl rfl)) rfl rfl rfl H8 ?_
 clear H8; intro a9 H9
 refine plain (y_move rfl rfl) rfl rfl rfl H9 ?_
 clear H9; intro a10 H10
 refine Sx.part (d := 10) H10 rfl (fun hg11 => ?_) (fun hg11 => ?_)
 ·first
  |fail
  |skip
   clear H10; intro H12
   try simp only [decide_eq_true_eq, decide_eq_false_iff_not, Bool.not_eq_true', Bool.not_eq_false', Bool.and_eq_true, Bool.not_eq_true, Bool.not_eq_false] at hg11
   refine skip rfl rfl rfl H12 ?_
   clear H12; intro a13 H13
   refine skip rfl rfl rfl H13 ?_
   clear H13; intro a14 H14
   refine skip rfl rfl rfl H14 ?_
   clear H14; intro a15 H15
   refine plain (y_pick_t rfl rfl rfl) rfl rfl rfl H15 ?_
   clear H15; intro a16 H16
   refine plain (y_move rfl rfl) rfl rfl rfl H16 ?_
   clear H16; intro a17 H17
   refine skip rfl rfl rfl H17 ?_
   clear H17; intro a18 H18
   refine skip rfl rfl rfl H18 ?_
   clear H18; intro a19 H19
   refine skip rfl rfl rfl H19 ?_
   clear H19; intro a20 H20
   refine skip rfl rfl rfl H20 ?_
   clear H20; intro a21 H21
   refine plain (y_pick_t rfl rfl rfl) rfl rfl rfl H21 ?_
   clear H21; intro a22 H22
   refine fin ?_
   refine then_n ?_
   refine cnd_t H22 rfl ?_
   refine wp_seq ?_
   refine reg ?_
   refine plain (y_assign rfl rfl) rfl rfl rfl H22 ?_
   clear H22; intro a24 H24
   refine fin ?_
   refine then_n ?_
   refine wp_ret ?_
   refine then_r ?_
   -- return 1
   refine ret1 rfl H24 rfl ?_
   try simp only [Note.text0] at *
   refine ⟨_, [], rfl, ⟨?_, rfl⟩, H24.sep.sub (List.nil_sublist _)⟩
   clear H24
   rw [Note.Item.ok_is]
   first | exact congrArg Value.bool (decide_eq_decide.2 (by omega)) | exact congrArg Value.bool (decide_eq_false (by omega)).symm | exact congrArg Value.bool (decide_eq_true (by omega)).symm
 ·first
  |fail
  |skip
   clear H10; intro H25
   try simp only [decide_eq_true_eq, decide_eq_false_iff_not, Bool.not_eq_true', Bool.not_eq_false', Bool.and_eq_true, Bool.not_eq_true, Bool.not_eq_false] at hg11
   refine plain (y_fieldB rfl z_field69_1 rfl (by first | (simp only [Nat.zero_add, Nat.add_zero, Nat.reduceAdd]; rfl) | rfl)) rfl rfl rfl H25 ?_
   clear H25; intro a26 H26
   refine plain (y_loadB rfl z_agg3 rfl MM q_ix_c4_1) rfl rfl rfl H26 ?_
   clear H26; intro a27 H27
   refine plain (y_gtr rfl rfl rfl) rfl rfl rfl H27 ?_
   clear H27; intro a28 H28
   refine plain (y_pick_f rfl rfl rfl) rfl rfl rfl H28 ?_
   clear H28; intro a29 H29
   refine plain (y_move rfl rfl) rfl rfl rfl H29 ?_
   clear H29; intro a30 H30
   refine Sx.part (d := 15) H30 rfl (fun hg31 => ?_) (fun hg31 => ?_)
   ·first
    |fail
    |skip
     clear H30; intro H32
     try simp only [decide_eq_true_eq, decide_eq_false_iff_not, Bool.not_eq_true', Bool.not_eq_false', Bool.and_eq_true, Bool.not_eq_true, Bool.not_eq_false] at hg31
     refine skip rfl rfl rfl H32 ?_
     clear H32; intro a33 H33
     refine skip rfl rfl rfl H33 ?_
     clear H33; intro a34 H34
     refine skip rfl rfl rfl H34 ?_
     clear H34; intro a35 H35
     refine skip rfl rfl rfl H35 ?_
     clear H35; intro a36 H36
     refine plain (y_pick_t rfl rfl rfl) rfl rfl rfl H36 ?_
     clear H36; intro a37 H37
     refine fin ?_
     refine then_n ?_
     refine cnd_t H37 rfl ?_
     refine wp_seq ?_
     refine reg ?_
     refine plain (y_assign rfl rfl) rfl rfl rfl H37 ?_
     clear H37; intro a39 H39
     refine fin ?_
     refine then_n ?_
     refine wp_ret ?_
     refine then_r ?_
     -- return 2
     refine ret1 rfl H39 rfl ?_
     try simp only [Note.text0] at *
     refine ⟨_, [], rfl, ⟨?_, rfl⟩, H39.sep.sub (List.nil_sublist _)⟩
     clear H39
     rw [Note.Item.ok_is]
     first | exact congrArg Value.bool (decide_eq_decide.2 (by omega)) | exact congrArg Value.bool (decide_eq_false (by omega)).symm | exact congrArg Value.bool (decide_eq_true (by omega)).symm
   ·first
    |fail
    |skip
     clear H30; intro H40
     try simp only [decide_eq_true_eq, decide_eq_false_iff_not, Bool.not_eq_true', Bool.not_eq_false', Bool.and_eq_true, Bool.not_eq_true, Bool.not_eq_false] at hg31
     refine plain (y_fieldB rfl z_field69_3 rfl (by first | (simp only [Nat.zero_add, Nat.add_zero, Nat.reduceAdd]; rfl) | rfl)) rfl rfl rfl H40 ?_
     clear H40; intro a41 H41
     refine plain (y_loadB rfl z_agg9 rfl MM q_ix_c4_3) rfl rfl rfl H41 ?_
     clear H41; intro a42 H42
     refine plain (y_slen rfl Tryd.underlying9 rfl) rfl rfl rfl H42 ?_
     clear H42; intro a43 H43
     refine plain (y_gtr rfl rfl rfl) rfl rfl rfl H43 ?_
     clear H43; intro a44 H44
     refine plain (y_pick_f rfl rfl rfl) rfl rfl rfl H44 ?_
     clear H44; intro a45 H45
     refine fin ?_
     refine then_n ?_
     refine cnd H45 rfl (fun hc46 => ?_) (fun hc46 => ?_) -- cond 3
     ·skip
      try simp only [decide_eq_true_eq, decide_eq_false_iff_not, Bool.not_eq_true', Bool.not_eq_false', Bool.and_eq_true, Bool.not_eq_true, Bool.not_eq_false] at hc46
      refine wp_seq ?_
      refine reg ?_
      refine plain (y_assign rfl rfl) rfl rfl rfl H45 ?_
      clear H45; intro a47 H47
      refine fin ?_
      refine then_n ?_
      refine wp_ret ?_
      refine then_r ?_
      -- return 3
      refine ret1 rfl H47 rfl ?_
      try simp only [Note.text0] at *
      refine ⟨_, [], rfl, ⟨?_, rfl⟩, H47.sep.sub (List.nil_sublist _)⟩
      clear H47
      rw [Note.Item.ok_is]
      first | exact congrArg Value.bool (decide_eq_decide.2 (by omega)) | exact congrArg Value.bool (decide_eq_false (by omega)).symm | exact congrArg Value.bool (decide_eq_true (by omega)).symm
     ·skip
      try simp only [decide_eq_true_eq, decide_eq_false_iff_not, Bool.not_eq_true', Bool.not_eq_false', Bool.and_eq_true, Bool.not_eq_true, Bool.not_eq_false] at hc46
      refine wp_skip ?_
      refine then_n ?_
      refine wp_seq ?_
      refine wp_seq ?_
      refine reg ?_
      refine plain (y_fieldB rfl z_field69_0 rfl (by first | (simp only [Nat.zero_add, Nat.add_zero, Nat.reduceAdd]; rfl) | rfl)) rfl rfl rfl H45 ?_
      clear H45; intro a48 H48
      refine plain (y_loadB rfl z_agg3 rfl MM q_ix_c4_0) rfl rfl rfl H48 ?_
      clear H48; intro a49 H49
      refine fin ?_
      refine then_n ?_
      refine wp_block ?_
      refine wp_seq ?_
      refine wp_seq ?_
      refine reg ?_
      refine plain (y_eql rfl rfl rfl) rfl rfl rfl H49 ?_
      clear H49; intro a50 H50
      refine plain (y_assign rfl rfl) rfl rfl rfl H50 ?_
      clear H50; intro a51 H51
      refine fin ?_
      refine then_n ?_
      refine cnd H51 rfl (fun hc52 => ?_) (fun hc52 => ?_) -- cond 4
      ·skip
       try simp only [decide_eq_true_eq, decide_eq_false_iff_not, Bool.not_eq_true', Bool.not_eq_false', Bool.and_eq_true, Bool.not_eq_true, Bool.not_eq_false] at hc52
       refine wp_skip ?_
       refine then_n ?_
       refine cnd H51 rfl (fun hc53 => ?_) (fun hc53 => ?_) -- cond 5
       ·skip
        try simp only [decide_eq_true_eq, decide_eq_false_iff_not, Bool.not_eq_true', Bool.not_eq_false', Bool.and_eq_true, Bool.not_eq_true, Bool.not_eq_false] at hc53
        refine wp_seq ?_
        refine reg ?_
        refine plain (y_fieldB rfl z_field69_2 rfl (by first | (simp only [Nat.zero_add, Nat.add_zero, Nat.reduceAdd]; rfl) | rfl)) rfl rfl rfl H51 ?_
        clear H51; intro a54 H54
        refine plain (y_loadB rfl z_agg3 rfl MM q_ix_c4_2) rfl rfl rfl H54 ?_
        clear H54; intro a55 H55
        refine plain (y_eql rfl rfl rfl) rfl rfl rfl H55 ?_
        clear H55; intro a56 H56
        refine plain (y_assign rfl rfl) rfl rfl rfl H56 ?_
        clear H56; intro a57 H57
        refine fin ?_
        refine then_n ?_
        refine wp_ret ?_
        refine inb_r ?_
        refine then_r ?_
        -- return 4
        refine ret1 rfl H57 rfl ?_
        try simp only [Note.text0] at *
        refine ⟨_, [], rfl, ⟨?_, rfl⟩, H57.sep.sub (List.nil_sublist _)⟩
        clear H57
        rw [Note.Item.ok_is]
        first | exact congrArg Value.bool (decide_eq_decide.2 (by omega)) | exact congrArg Value.bool (decide_eq_false (by omega)).symm | exact congrArg Value.bool (decide_eq_true (by omega)).symm
       ·skip
        try simp only [decide_eq_true_eq, decide_eq_false_iff_not, Bool.not_eq_true', Bool.not_eq_false', Bool.and_eq_true, Bool.not_eq_true, Bool.not_eq_false] at hc53
        refine wp_seq ?_
        refine reg ?_
        refine plain (y_eql rfl rfl rfl) rfl rfl rfl H51 ?_
        clear H51; intro a58 H58
        refine plain (y_assign rfl rfl) rfl rfl rfl H58 ?_
        clear H58; intro a59 H59
        refine fin ?_
        refine then_n ?_
        refine cnd H59 rfl (fun hc60 => ?_) (fun hc60 => ?_) -- cond 6
        ·skip
         try simp only [decide_eq_true_eq, decide_eq_false_iff_not, Bool.not_eq_true', Bool.not_eq_false', Bool.and_eq_true, Bool.not_eq_true, Bool.not_eq_false] at hc60
         refine wp_seq ?_
         refine reg ?_
         refine plain (y_fieldB rfl z_field69_1 rfl (by first | (simp only [Nat.zero_add, Nat.add_zero, Nat.reduceAdd]; rfl) | rfl)) rfl rfl rfl H59 ?_
         clear H59; intro a61 H61
         refine plain (y_loadB rfl z_agg3 rfl MM q_ix_c4_1) rfl rfl rfl H61 ?_
         clear H61; intro a62 H62
         refine plain (y_eql rfl rfl rfl) rfl rfl rfl H62 ?_
         clear H62; intro a63 H63
         refine plain (y_move rfl rfl) rfl rfl rfl H63 ?_
         clear H63; intro a64 H64
         refine Sx.part (d := 34) H64 rfl (fun hg65 => ?_) (fun hg65 => ?_)
         ·first
          |fail
          |skip
           clear H64; intro H66
           try simp only [decide_eq_true_eq, decide_eq_false_iff_not, Bool.not_eq_true', Bool.not_eq_false', Bool.and_eq_true, Bool.not_eq_true, Bool.not_eq_false] at hg65
           refine plain (y_fieldB rfl z_field69_3 rfl (by first | (simp only [Nat.zero_add, Nat.add_zero, Nat.reduceAdd]; rfl) | rfl)) rfl rfl rfl H66 ?_
           clear H66; intro a67 H67
           refine plain (y_loadB rfl z_agg9 rfl MM q_ix_c4_3) rfl rfl rfl H67 ?_
           clear H67; intro a68 H68
           refine plain (y_seql rfl rfl rfl) rfl rfl rfl H68 ?_
           clear H68; intro a69 H69
           refine plain (y_pick_t rfl rfl rfl) rfl rfl rfl H69 ?_
           clear H69; intro a70 H70
           refine plain (y_assign rfl rfl) rfl rfl rfl H70 ?_
           clear H70; intro a71 H71
           refine fin ?_
           refine then_n ?_
           refine wp_ret ?_
           refine inb_r ?_
           refine then_r ?_
           -- return 5
           refine ret1 rfl H71 rfl ?_
           try simp only [Note.text0] at *
           refine ⟨_, [], rfl, ⟨?_, rfl⟩, H71.sep.sub (List.nil_sublist _)⟩
           clear H71
           rw [Note.Item.ok_is]
           first | exact congrArg Value.bool (decide_eq_decide.2 (by omega)) | exact congrArg Value.bool (decide_eq_false (by omega)).symm | exact congrArg Value.bool (decide_eq_true (by omega)).symm
         ·first
          |fail
          |skip
           clear H64; intro H72
           try simp only [decide_eq_true_eq, decide_eq_false_iff_not, Bool.not_eq_true', Bool.not_eq_false', Bool.and_eq_true, Bool.not_eq_true, Bool.not_eq_false] at hg65
           refine skip rfl rfl rfl H72 ?_
           clear H72; intro a73 H73
           refine skip rfl rfl rfl H73 ?_
           clear H73; intro a74 H74
           refine skip rfl rfl rfl H74 ?_
           clear H74; intro a75 H75
           refine plain (y_pick_f rfl rfl rfl) rfl rfl rfl H75 ?_
           clear H75; intro a76 H76
           refine plain (y_assign rfl rfl) rfl rfl rfl H76 ?_
           clear H76; intro a77 H77
           refine fin ?_
           refine then_n ?_
           refine wp_ret ?_
           refine inb_r ?_
           refine then_r ?_
           -- return 6
           refine ret1 rfl H77 rfl ?_
           try simp only [Note.text0] at *
           refine ⟨_, [], rfl, ⟨?_, rfl⟩, H77.sep.sub (List.nil_sublist _)⟩
           clear H77
           rw [Note.Item.ok_is]
           first | exact congrArg Value.bool (decide_eq_decide.2 (by omega)) | exact congrArg Value.bool (decide_eq_false (by omega)).symm | exact congrArg Value.bool (decide_eq_true (by omega)).symm
        ·skip
         try simp only [decide_eq_true_eq, decide_eq_false_iff_not, Bool.not_eq_true', Bool.not_eq_false', Bool.and_eq_true, Bool.not_eq_true, Bool.not_eq_false] at hc60
         refine wp_skip ?_
         refine inb_n ?_
         refine then_n ?_
         refine wp_seq ?_
         refine reg ?_
         refine plain (y_assign rfl rfl) rfl rfl rfl H59 ?_
         clear H59; intro a78 H78
         refine fin ?_
         refine then_n ?_
         refine wp_ret ?_
         -- return 7
         refine ret1 rfl H78 rfl ?_
         try simp only [Note.text0] at *
         refine ⟨_, [], rfl, ⟨?_, rfl⟩, H78.sep.sub (List.nil_sublist _)⟩
         clear H78
         rw [Note.Item.ok_is]
         first | exact congrArg Value.bool (decide_eq_decide.2 (by omega)) | exact congrArg Value.bool (decide_eq_false (by omega)).symm | exact congrArg Value.bool (decide_eq_true (by omega)).symm
      ·skip
       try simp only [decide_eq_true_eq, decide_eq_false_iff_not, Bool.not_eq_true', Bool.not_eq_false', Bool.and_eq_true, Bool.not_eq_true, Bool.not_eq_false] at hc52
       refine reg ?_
       refine plain (y_eql rfl rfl rfl) rfl rfl rfl H51 ?_
       clear H51; intro a79 H79
       refine plain (y_assign rfl rfl) rfl rfl rfl H79 ?_
       clear H79; intro a80 H80
       refine fin ?_
       refine then_n ?_
       refine cnd H80 rfl (fun hc81 => ?_) (fun hc81 => ?_) -- cond 7
       ·skip
        try simp only [decide_eq_true_eq, decide_eq_false_iff_not, Bool.not_eq_true', Bool.not_eq_false', Bool.and_eq_true, Bool.not_eq_true, Bool.not_eq_false] at hc81
        refine wp_seq ?_
        refine reg ?_
        refine plain (y_fieldB rfl z_field69_2 rfl (by first | (simp only [Nat.zero_add, Nat.add_zero, Nat.reduceAdd]; rfl) | rfl)) rfl rfl rfl H80 ?_
        clear H80; intro a82 H82
        refine plain (y_loadB rfl z_agg3 rfl MM q_ix_c4_2) rfl rfl rfl H82 ?_
        clear H82; intro a83 H83
        refine plain (y_eql rfl rfl rfl) rfl rfl rfl H83 ?_
        clear H83; intro a84 H84
        refine plain (y_assign rfl rfl) rfl rfl rfl H84 ?_
        clear H84; intro a85 H85
        refine fin ?_
        refine then_n ?_
        refine wp_ret ?_
        refine inb_r ?_
        refine then_r ?_
        -- return 8
        refine ret1 rfl H85 rfl ?_
        try simp only [Note.text0] at *
        refine ⟨_, [], rfl, ⟨?_, rfl⟩, H85.sep.sub (List.nil_sublist _)⟩
        clear H85
        rw [Note.Item.ok_is]
        first | exact congrArg Value.bool (decide_eq_decide.2 (by omega)) | exact congrArg Value.bool (decide_eq_false (by omega)).symm | exact congrArg Value.bool (decide_eq_true (by omega)).symm
       ·skip
        try simp only [decide_eq_true_eq, decide_eq_false_iff_not, Bool.not_eq_true', Bool.not_eq_false', Bool.and_eq_true, Bool.not_eq_true, Bool.not_eq_false] at hc81
        refine wp_seq ?_
        refine reg ?_
        refine plain (y_eql rfl rfl rfl) rfl rfl rfl H80 ?_
        clear H80; intro a86 H86
        refine plain (y_assign rfl rfl) rfl rfl rfl H86 ?_
        clear H86; intro a87 H87
        refine fin ?_
        refine then_n ?_
        refine cnd H87 rfl (fun hc88 => ?_) (fun hc88 => ?_) -- cond 8
        ·skip
         try simp only [decide_eq_true_eq, decide_eq_false_iff_not, Bool.not_eq_true', Bool.not_eq_false', Bool.and_eq_true, Bool.not_eq_true, Bool.not_eq_false] at hc88
         refine wp_seq ?_
         refine reg ?_
         refine plain (y_fieldB rfl z_field69_1 rfl (by first | (simp only [Nat.zero_add, Nat.add_zero, Nat.reduceAdd]; rfl) | rfl)) rfl rfl rfl H87 ?_
         clear H87; intro a89 H89
         refine plain (y_loadB rfl z_agg3 rfl MM q_ix_c4_1) rfl rfl rfl H89 ?_
         clear H89; intro a90 H90
         refine plain (y_eql rfl rfl rfl) rfl rfl rfl H90 ?_
         clear H90; intro a91 H91
         refine plain (y_move rfl rfl) rfl rfl rfl H91 ?_
         clear H91; intro a92 H92
         refine Sx.part (d := 34) H92 rfl (fun hg93 => ?_) (fun hg93 => ?_)
         ·first
          |fail
          |skip
           clear H92; intro H94
           try simp only [decide_eq_true_eq, decide_eq_false_iff_not, Bool.not_eq_true', Bool.not_eq_false', Bool.and_eq_true, Bool.not_eq_true, Bool.not_eq_false] at hg93
           refine plain (y_fieldB rfl z_field69_3 rfl (by first | (simp only [Nat.zero_add, Nat.add_zero, Nat.reduceAdd]; rfl) | rfl)) rfl rfl rfl H94 ?_
           clear H94; intro a95 H95
           refine plain (y_loadB rfl z_agg9 rfl MM q_ix_c4_3) rfl rfl rfl H95 ?_
           clear H95; intro a96 H96
           refine plain (y_seql rfl rfl rfl) rfl rfl rfl H96 ?_
           clear H96; intro a97 H97
           refine plain (y_pick_t rfl rfl rfl) rfl rfl rfl H97 ?_
           clear H97; intro a98 H98
           refine plain (y_assign rfl rfl) rfl rfl rfl H98 ?_
           clear H98; intro a99 H99
           refine fin ?_
           refine then_n ?_
           refine wp_ret ?_
           refine inb_r ?_
           refine then_r ?_
           -- return 9
           refine ret1 rfl H99 rfl ?_
           try simp only [Note.text0] at *
           refine ⟨_, [], rfl, ⟨?_, rfl⟩, H99.sep.sub (List.nil_sublist _)⟩
           clear H99
           rw [Note.Item.ok_is]
           first | exact congrArg Value.bool (decide_eq_decide.2 (by omega)) | exact congrArg Value.bool (decide_eq_false (by omega)).symm | exact congrArg Value.bool (decide_eq_true (by omega)).symm
         ·first
          |fail
          |skip
           clear H92; intro H100
           try simp only [decide_eq_true_eq, decide_eq_false_iff_not, Bool.not_eq_true', Bool.not_eq_false', Bool.and_eq_true, Bool.not_eq_true, Bool.not_eq_false] at hg93
           refine skip rfl rfl rfl H100 ?_
           clear H100; intro a101 H101
           refine skip rfl rfl rfl H101 ?_
           clear H101; intro a102 H102
           refine skip rfl rfl rfl H102 ?_
           clear H102; intro a103 H103
           refine plain (y_pick_f rfl rfl rfl) rfl rfl rfl H103 ?_
           clear H103; intro a104 H104
           refine plain (y_assign rfl rfl) rfl rfl rfl H104 ?_
           clear H104; intro a105 H105
           refine fin ?_
           refine then_n ?_
           refine wp_ret ?_
           refine inb_r ?_
           refine then_r ?_
           -- return 10
           refine ret1 rfl H105 rfl ?_
           try simp only [Note.text0] at *
           refine ⟨_, [], rfl, ⟨?_, rfl⟩, H105.sep.sub (List.nil_sublist _)⟩
           clear H105
           rw [Note.Item.ok_is]
           first | exact congrArg Value.bool (decide_eq_decide.2 (by omega)) | exact congrArg Value.bool (decide_eq_false (by omega)).symm | exact congrArg Value.bool (decide_eq_true (by omega)).symm
        ·skip
         try simp only [decide_eq_true_eq, decide_eq_false_iff_not, Bool.not_eq_true', Bool.not_eq_false', Bool.and_eq_true, Bool.not_eq_true, Bool.not_eq_false] at hc88
         refine wp_skip ?_
         refine inb_n ?_
         refine then_n ?_
         refine wp_seq ?_
         refine reg ?_
         refine plain (y_assign rfl rfl) rfl rfl rfl H87 ?_
         clear H87; intro a106 H106
         refine fin ?_
         refine then_n ?_
         refine wp_ret ?_
         -- return 11
         refine ret1 rfl H106 rfl ?_
         try simp only [Note.text0] at *
         refine ⟨_, [], rfl, ⟨?_, rfl⟩, H106.sep.sub (List.nil_sublist _)⟩
         clear H106
         rw [Note.Item.ok_is]
         first | exact congrArg Value.bool (decide_eq_decide.2 (by omega)) | exact congrArg Value.bool (decide_eq_false (by omega)).symm | exact congrArg Value.bool (decide_eq_true (by omega)).symm
set_option maxRecDepth 100000 in
set_option maxHeartbeats 1000000 in
theorem nwitem (i : Note.Item) (wf : Note.Item.Wf i) (w : World) : Calls Tryd.prog 31 #[.agg (Note.Item.cells i).toArray] w (Gives (.tuple #[str (Note.writeItem i).1, .int .i64 (Note.writeItem i).2]) [] w) := by
 have lz32 : (List.replicate 32 (0 : UInt8)).length = 32 := List.length_replicate
 refine enterL (args := [.agg (Note.Item.cells i).toArray]) Tryd.func31 rfl rfl (l := []) (Sep.refl _) ?_
 intro a0 H0
 refine wp_seq ?_
 refine reg ?_
 refine st_box rfl rfl (agg_cells _) rfl rfl rfl H0 ?_
 clear H0; intro b1 a1 wx1 H1
 refine plain (y_assign rfl rfl) rfl rfl rfl H1 ?_
 clear H1; intro a2 H2
 refine plain (y_assign rfl rfl) rfl rfl rfl H2 ?_
 clear H2; intro a3 H3
 refine fin ?_
 refine then_n ?_
 refine wp_seq ?_
 refine wp_seq ?_
 refine reg ?_
 refine plain (y_loadAB rfl z_agg69 z_size69 rfl MM q_ld_c4_0_4 q_len_c4) rfl rfl rfl H3 ?_
 clear H3; intro a4 H4
 refine st_callg rfl z_call45 rfl rfl rfl rfl H4 (nitem i wf _) ?_
 clear H4; intro a5 wx5 H5
 refine plain ((by first | exact y_not_d rfl rfl | exact y_not rfl rfl)) rfl rfl rfl H5 ?_
 clear H5; intro a6 H6
 refine fin ?_
 refine then_n ?_
 refine cnd H6 rfl (fun hc7 => ?_) (fun hc7 => ?_) -- cond 1
 ·skip
  try simp only [decide_eq_true_eq, decide_eq_false_iff_not, Bool.not_eq_true', Bool.not_eq_false', Bool.and_eq_true, Bool.not_eq_true, Bool.not_eq_false] at hc7
  have hk := hc7
  refine wp_seq ?_
  refine reg ?_
  refine plain (y_assign rfl rfl) rfl rfl rfl H6 ?_
  clear H6; intro a8 H8
  refine plain (y_assign rfl rfl) rfl rfl rfl H8 ?_
  clear H8; intro a9 H9
  refine fin ?_
  refine then_n ?_
  refine wp_ret ?_
  refine then_r ?_
  -- return 1
  refine ret2 rfl H9 rfl rfl ?_
  exact ⟨_, [], rfl, ⟨by rw [Note.writeItem, hk]; rfl, rfl⟩, H9.sep.sub (List.nil_sublist _)⟩
 ·skip
  try simp only [decide_eq_true_eq, decide_eq_false_iff_not, Bool.not_eq_true', Bool.not_eq_false', Bool.and_eq_true, Bool.not_eq_true, Bool.not_eq_false] at hc7
  have hk := hc7
  refine wp_skip ?_
  refine then_n ?_
  refine wp_seq ?_
  refine hreg _ (fun _ h => h) (by kernel_rfl) H6 ?_
  clear H6; intro wx10 H10
  refine htake 0 rfl (by kernel_rfl) (y_fieldB rfl z_field69_0 rfl (by first | (simp only [Nat.zero_add, Nat.add_zero, Nat.reduceAdd]; rfl) | rfl)) rfl rfl rfl (fun _ h => h.subA) H10 ?_
  clear H10; intro a11 H11
  refine htake 1 rfl (by kernel_rfl) (y_loadB rfl z_agg3 rfl MM q_ix_c4_0) rfl rfl rfl (fun _ h => h.subA) H11 ?_
  clear H11; intro a12 H12
  refine htake 2 rfl (by kernel_rfl) (y_fieldB rfl z_field69_1 rfl (by first | (simp only [Nat.zero_add, Nat.add_zero, Nat.reduceAdd]; rfl) | rfl)) rfl rfl rfl (fun _ h => h.subA) H12 ?_
  clear H12; intro a13 H13
  refine htake 3 rfl (by kernel_rfl) (y_loadB rfl z_agg3 rfl MM q_ix_c4_1) rfl rfl rfl (fun _ h => h.subA) H13 ?_
  clear H13; intro a14 H14
  refine htake 4 rfl (by kernel_rfl) (y_fieldB rfl z_field69_2 rfl (by first | (simp only [Nat.zero_add, Nat.add_zero, Nat.reduceAdd]; rfl) | rfl)) rfl rfl rfl (fun _ h => h.subA) H14 ?_
  clear H14; intro a15 H15
  refine htake 5 rfl (by kernel_rfl) (y_loadB rfl z_agg3 rfl MM q_ix_c4_2) rfl rfl rfl (fun _ h => h.subA) H15 ?_
  clear H15; intro a16 H16
  refine htake 8 rfl (by kernel_rfl) (y_fieldB rfl z_field69_3 rfl (by first | (simp only [Nat.zero_add, Nat.add_zero, Nat.reduceAdd]; rfl) | rfl)) rfl rfl rfl (fun _ h => h.subA) H16 ?_
  clear H16; intro a17 H17
  refine htake 9 rfl (by kernel_rfl) (y_loadB rfl z_agg9 rfl MM q_ix_c4_3) rfl rfl rfl (fun _ h => h.subA) H17 ?_
  clear H17; intro a18 H18
  refine hgo2 6 10 rfl rfl (by kernel_rfl) ?_ ?_
  ·skip
   refine st_buildSlice1 (xs := [.tmp 8, .tmp 10, .tmp 12]) rfl Tryd.underlying105 z_size3 z_zero3 rfl rfl rfl rfl rfl rfl rfl rfl rfl H18 ?_
   clear H18; intro b19 a19 wx19 H19
   refine hfin (H19.sep.sub (by first | exact S0 | exact S1 | repeat (first | exact S1 | exact S0 | apply S2 | apply S3))) ?_
   refine hgo2 7 10 rfl rfl (by kernel_rfl) ?_ ?_
   ·skip
    refine st_call rfl z_call47 rfl rfl rfl rfl H19 (nlay [i.kind, i.who, i.n] _ _ _ rfl (by simp) (by intro x hx; simp only [List.mem_cons, List.not_mem_nil, or_false] at hx; rcases hx with rfl | rfl | rfl <;> first | exact wf.kind.2 | exact wf.who.2 | exact wf.n.2) (Rd.ofSep (rd_blkA MM) H19.sep)) ?_
    clear H19; intro v20 l20 a20 wx20 hf20 H20
    obtain rfl := hf20
    simp only [List.cons_append, List.nil_append] at H20
    obtain ⟨Ar20, cr20, hvr20, hRr20, hmr20⟩ := row_shape (v := v20) H20.sep MM
    subst hvr20
    refine hfin (H20.sep.sub (by first | exact S0 | exact S1 | repeat (first | exact S1 | exact S0 | apply S2 | apply S3))) ?_
    refine hgo 10 rfl (by kernel_rfl) ?_
    refine st_buildSlice1 (xs := [.tmp 16]) rfl Tryd.underlying67 z_size9 z_zero9 rfl rfl rfl rfl rfl rfl rfl rfl rfl H20 ?_
    clear H20; intro b21 a21 wx21 H21
    refine hfin (H21.sep.sub (by first | exact S0 | exact S1 | repeat (first | exact S1 | exact S0 | apply S2 | apply S3))) ?_
    refine hgo 11 rfl (by kernel_rfl) ?_
    refine st_append rfl z_slice67 z_notint67 rfl rfl (fun _ => UU) (fun w hs => Src.slice ((rd_blkA MM) w hs) rfl (by simp [Value.oneCell'])) (by unfold maxLen at *; first | omega | (simp only [List.length_cons, List.length_nil, List.length_append, List.length_map]; omega)) (by first | omega | (simp only [List.length_cons, List.length_nil, List.length_append, List.length_map]; omega)) rfl rfl rfl H21 ?_
    clear H21; intro v22 a22 wx22 hnil22 H22
    obtain ⟨Ar22, cr22, hvr22, hRr22, hmr22⟩ := row_shape (v := v22) H22.sep MM
    subst hvr22
    refine hfin (H22.sep.sub (by first | exact S0 | exact S1 | repeat (first | exact S1 | exact S0 | apply S2 | apply S3))) ?_
    refine hgo 12 rfl (by kernel_rfl) ?_
    refine st_callg rfl z_call46 rfl rfl rfl rfl H22 (nwrite [Note.num i.kind, Note.num i.who, Note.num i.n, i.text] _ _ _ rfl (Rd.ofSep (rd_row MM) H22.sep) (by simp)) ?_
    clear H22; intro a23 wx23 H23
    refine hfin (H23.sep.sub (by first | exact S0 | exact S1 | repeat (first | exact S1 | exact S0 | apply S2 | apply S3))) ?_
    refine htake 13 rfl (by kernel_rfl) (y_extract rfl rfl rfl) rfl rfl rfl (fun _ h => h.subA) H23 ?_
    clear H23; intro a24 H24
    refine htake 14 rfl (by kernel_rfl) (y_extract rfl rfl rfl) rfl rfl rfl (fun _ h => h.subA) H24 ?_
    clear H24; intro a25 H25
    refine htake 15 rfl (by kernel_rfl) (y_assign rfl rfl) rfl rfl rfl (fun _ h => h.subA) H25 ?_
    clear H25; intro a26 H26
    refine htake 16 rfl (by kernel_rfl) (y_assign rfl rfl) rfl rfl rfl (fun _ h => h.subA) H26 ?_
    clear H26; intro a27 H27
    refine hdone (by kernel_rfl) ?_
    refine then_n ?_
    refine wp_ret ?_
    -- return 2
    refine ret2 rfl H27 rfl rfl ?_
    exact ⟨_, [], rfl, ⟨by rw [Note.writeItem, hk]; rfl, rfl⟩, H27.sep.sub (List.nil_sublist _)⟩
   ·skip
    refine st_buildSlice1 (xs := [.tmp 16]) rfl Tryd.underlying67 z_size9 z_zero9 rfl rfl rfl rfl rfl rfl rfl rfl rfl H19 ?_
    clear H19; intro b28 a28 wx28 H28
    refine hfin (H28.sep.sub (by first | exact S0 | exact S1 | repeat (first | exact S1 | exact S0 | apply S2 | apply S3))) ?_
    refine hgo 7 rfl (by kernel_rfl) ?_
    refine st_call rfl z_call47 rfl rfl rfl rfl H28 (nlay [i.kind, i.who, i.n] _ _ _ rfl (by simp) (by intro x hx; simp only [List.mem_cons, List.not_mem_nil, or_false] at hx; rcases hx with rfl | rfl | rfl <;> first | exact wf.kind.2 | exact wf.who.2 | exact wf.n.2) (Rd.ofSep (rd_blkA MM) H28.sep)) ?_
    clear H28; intro v29 l29 a29 wx29 hf29 H29
    obtain rfl := hf29
    simp only [List.cons_append, List.nil_append] at H29
    obtain ⟨Ar29, cr29, hvr29, hRr29, hmr29⟩ := row_shape (v := v29) H29.sep MM
    subst hvr29
    refine hfin (H29.sep.sub (by first | exact S0 | exact S1 | repeat (first | exact S1 | exact S0 | apply S2 | apply S3))) ?_
    refine hgo 11 rfl (by kernel_rfl) ?_
    refine st_append rfl z_slice67 z_notint67 rfl rfl (fun _ => UU) (fun w hs => Src.slice ((rd_blkA MM) w hs) rfl (by simp [Value.oneCell'])) (by unfold maxLen at *; first | omega | (simp only [List.length_cons, List.length_nil, List.length_append, List.length_map]; omega)) (by first | omega | (simp only [List.length_cons, List.length_nil, List.length_append, List.length_map]; omega)) rfl rfl rfl H29 ?_
    clear H29; intro v30 a30 wx30 hnil30 H30
    obtain ⟨Ar30, cr30, hvr30, hRr30, hmr30⟩ := row_shape (v := v30) H30.sep MM
    subst hvr30
    refine hfin (H30.sep.sub (by first | exact S0 | exact S1 | repeat (first | exact S1 | exact S0 | apply S2 | apply S3))) ?_
    refine hgo 12 rfl (by kernel_rfl) ?_
    refine st_callg rfl z_call46 rfl rfl rfl rfl H30 (nwrite [Note.num i.kind, Note.num i.who, Note.num i.n, i.text] _ _ _ rfl (Rd.ofSep (rd_row MM) H30.sep) (by simp)) ?_
    clear H30; intro a31 wx31 H31
    refine hfin (H31.sep.sub (by first | exact S0 | exact S1 | repeat (first | exact S1 | exact S0 | apply S2 | apply S3))) ?_
    refine htake 13 rfl (by kernel_rfl) (y_extract rfl rfl rfl) rfl rfl rfl (fun _ h => h.subA) H31 ?_
    clear H31; intro a32 H32
    refine htake 14 rfl (by kernel_rfl) (y_extract rfl rfl rfl) rfl rfl rfl (fun _ h => h.subA) H32 ?_
    clear H32; intro a33 H33
    refine htake 15 rfl (by kernel_rfl) (y_assign rfl rfl) rfl rfl rfl (fun _ h => h.subA) H33 ?_
    clear H33; intro a34 H34
    refine htake 16 rfl (by kernel_rfl) (y_assign rfl rfl) rfl rfl rfl (fun _ h => h.subA) H34 ?_
    clear H34; intro a35 H35
    refine hdone (by kernel_rfl) ?_
    refine then_n ?_
    refine wp_ret ?_
    -- return 3
    refine ret2 rfl H35 rfl rfl ?_
    exact ⟨_, [], rfl, ⟨by rw [Note.writeItem, hk]; rfl, rfl⟩, H35.sep.sub (List.nil_sublist _)⟩
  ·skip
   refine st_buildSlice1 (xs := [.tmp 16]) rfl Tryd.underlying67 z_size9 z_zero9 rfl rfl rfl rfl rfl rfl rfl rfl rfl H18 ?_
   clear H18; intro b36 a36 wx36 H36
   refine hfin (H36.sep.sub (by first | exact S0 | exact S1 | repeat (first | exact S1 | exact S0 | apply S2 | apply S3))) ?_
   refine hgo 6 rfl (by kernel_rfl) ?_
   refine st_buildSlice1 (xs := [.tmp 8, .tmp 10, .tmp 12]) rfl Tryd.underlying105 z_size3 z_zero3 rfl rfl rfl rfl rfl rfl rfl rfl rfl H36 ?_
   clear H36; intro b37 a37 wx37 H37
   refine hfin (H37.sep.sub (by first | exact S0 | exact S1 | repeat (first | exact S1 | exact S0 | apply S2 | apply S3))) ?_
   refine hgo 7 rfl (by kernel_rfl) ?_
   refine st_call rfl z_call47 rfl rfl rfl rfl H37 (nlay [i.kind, i.who, i.n] _ _ _ rfl (by simp) (by intro x hx; simp only [List.mem_cons, List.not_mem_nil, or_false] at hx; rcases hx with rfl | rfl | rfl <;> first | exact wf.kind.2 | exact wf.who.2 | exact wf.n.2) (Rd.ofSep (rd_blkA MM) H37.sep)) ?_
   clear H37; intro v38 l38 a38 wx38 hf38 H38
   obtain rfl := hf38
   simp only [List.cons_append, List.nil_append] at H38
   obtain ⟨Ar38, cr38, hvr38, hRr38, hmr38⟩ := row_shape (v := v38) H38.sep MM
   subst hvr38
   refine hfin (H38.sep.sub (by first | exact S0 | exact S1 | repeat (first | exact S1 | exact S0 | apply S2 | apply S3))) ?_
   refine hgo 11 rfl (by kernel_rfl) ?_
   refine st_append rfl z_slice67 z_notint67 rfl rfl (fun _ => UU) (fun w hs => Src.slice ((rd_blkA MM) w hs) rfl (by simp [Value.oneCell'])) (by unfold maxLen at *; first | omega | (simp only [List.length_cons, List.length_nil, List.length_append, List.length_map]; omega)) (by first | omega | (simp only [List.length_cons, List.length_nil, List.length_append, List.length_map]; omega)) rfl rfl rfl H38 ?_
   clear H38; intro v39 a39 wx39 hnil39 H39
   obtain ⟨Ar39, cr39, hvr39, hRr39, hmr39⟩ := row_shape (v := v39) H39.sep MM
   subst hvr39
   refine hfin (H39.sep.sub (by first | exact S0 | exact S1 | repeat (first | exact S1 | exact S0 | apply S2 | apply S3))) ?_
   refine hgo 12 rfl (by kernel_rfl) ?_
   refine st_callg rfl z_call46 rfl rfl rfl rfl H39 (nwrite [Note.num i.kind, Note.num i.who, Note.num i.n, i.text] _ _ _ rfl (Rd.ofSep (rd_row MM) H39.sep) (by simp)) ?_
   clear H39; intro a40 wx40 H40
   refine hfin (H40.sep.sub (by first | exact S0 | exact S1 | repeat (first | exact S1 | exact S0 | apply S2 | apply S3))) ?_
   refine htake 13 rfl (by kernel_rfl) (y_extract rfl rfl rfl) rfl rfl rfl (fun _ h => h.subA) H40 ?_
   clear H40; intro a41 H41
   refine htake 14 rfl (by kernel_rfl) (y_extract rfl rfl rfl) rfl rfl rfl (fun _ h => h.subA) H41 ?_
   clear H41; intro a42 H42
   refine htake 15 rfl (by kernel_rfl) (y_assign rfl rfl) rfl rfl rfl (fun _ h => h.subA) H42 ?_
   clear H42; intro a43 H43
   refine htake 16 rfl (by kernel_rfl) (y_assign rfl rfl) rfl rfl rfl (fun _ h => h.subA) H43 ?_
   clear H43; intro a44 H44
   refine hdone (by kernel_rfl) ?_
   refine then_n ?_
   refine wp_ret ?_
   -- return 4
   refine ret2 rfl H44 rfl rfl ?_
   exact ⟨_, [], rfl, ⟨by rw [Note.writeItem, hk]; rfl, rfl⟩, H44.sep.sub (List.nil_sublist _)⟩

end Go.Proofs.YtlhddgkbbdfacaaDoor.C_Item
