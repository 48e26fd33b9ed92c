/- Part of a proof about given Go functions: contracts of functions, or plain laws. -/
import Derived.Test.YtlaojmcpiggfeaaSxH
import Derived.Test.YtlaojmcpiggfeaaBank
import Derived.Test.YtlaojmcpiggfeaaProg
import Derived.Test.YtlaojmcpiggfeaaTBank
set_option linter.unusedVariables false
set_option linter.unusedSimpArgs false
namespace Go.Proofs.Ytlaojmcpiggfeaa.TBank2
open Go.Sx Go.RowKit Go.Proofs.Ytlaojmcpiggfeaa.TBank

theorem z_zero69 : zeroL Try.prog 69 = some (List.replicate 64 (.int .i64 0)) := by kernel_rfl
theorem z_places69 : placesB Try.prog 69 = some [(0, 64)] := by kernel_rfl
theorem z_field69_0 : fieldB Try.prog 69 0 = some 0 := by kernel_rfl
theorem z_size3 : sizeB Try.prog 3 = some 1 := by kernel_rfl
theorem z_agg3 : aggB Try.prog 3 = some false := by kernel_rfl
theorem z_zero3 : zeroL Try.prog 3 = some ([.int .i64 0]) := by kernel_rfl
theorem z_slice39 : sliceB Try.prog 39 = some (3, 1, 8) := by kernel_rfl
theorem z_notint39 : notIntB Try.prog 39 = true := by kernel_rfl
theorem z_call28 : callB Try.prog 28 = true := by kernel_rfl
theorem z_field34_0 : fieldB Try.prog 34 0 = some 0 := by kernel_rfl
theorem z_field34_1 : fieldB Try.prog 34 1 = some 1 := by kernel_rfl
theorem z_field34_3 : fieldB Try.prog 34 3 = some 3 := by kernel_rfl
theorem z_call30 : callB Try.prog 30 = true := by kernel_rfl
theorem z_call31 : callB Try.prog 31 = true := by kernel_rfl
theorem z_field34_2 : fieldB Try.prog 34 2 = some 2 := by kernel_rfl
theorem z_call32 : callB Try.prog 32 = true := by kernel_rfl
theorem z_call19 : callB Try.prog 19 = true := by kernel_rfl
theorem z_call29 : callB Try.prog 29 = true := by kernel_rfl
theorem z_call21 : callB Try.prog 21 = true := by kernel_rfl
theorem z_call27 : callB Try.prog 27 = true := by kernel_rfl

set_option maxRecDepth 100000 in
set_option maxHeartbeats 1000000 in
theorem bnew (w : World) : Calls Try.prog 19 #[] w (Post [] w (fun u l => ∃ b, u = .pointer (some ⟨b, 0, none⟩) ∧ l = [It.blk b 69 ((List.replicate 64 (0 : Int)).map i64)])) := by
  refine enterL (args := []) Try.func19 rfl rfl (l := []) (Sep.refl _) ?_
  intro a0 H0
  refine wp_seq ?_
  refine reg ?_
  refine plain (y_assign rfl rfl) rfl rfl rfl H0 ?_
  clear H0; intro a1 H1
  refine fin ?_
  refine then_n ?_
  refine wp_seq ?_
  refine reg ?_
  refine plain (y_build rfl z_zero69 z_places69 rfl rfl) rfl rfl rfl H1 ?_
  clear H1; intro a2 H2
  refine st_box rfl rfl rfl rfl rfl rfl H2 ?_
  clear H2; intro b3 a3 w3 H3
  refine plain (y_assign rfl rfl) rfl rfl rfl H3 ?_
  clear H3; intro a4 H4
  refine fin ?_
  refine then_n ?_
  refine wp_ret ?_
  -- return 1
  refine ret1 rfl H4 rfl ?_
  exact ⟨_, _, rfl, ⟨b3, rfl, by rw [← i64_zeros]; rfl⟩, H4.sep⟩
set_option maxRecDepth 100000 in
set_option maxHeartbeats 1000000 in
theorem bof0 (b : Nat) (L : List Int) (hL : Bank.Ok L) (who : Int) {w : World} (hp : (It.blk b 69 (L.map i64)).P w) : Calls Try.prog 28 #[.pointer (some ⟨b, 0, none⟩), .int .i64 who] w (Post [b] w (fun u l => ∃ l', l = l' ++ [It.blk b 69 (L.map i64)] ∧ u = .int .i64 (Bank.of L who) ∧ l' = [])) := by
  have hlen := hL.len
  refine enterL (args := [.pointer (some ⟨b, 0, none⟩), .int .i64 who]) Try.func28 rfl rfl (l := [It.blk b 69 (L.map i64)]) (Sep.one hp) ?_
  intro a0 H0
  refine wp_seq ?_
  refine reg ?_
  refine plain (y_assign rfl rfl) rfl rfl rfl H0 ?_
  clear H0; intro a1 H1
  refine fin ?_
  refine then_n ?_
  refine wp_seq ?_
  refine wp_seq ?_
  refine reg ?_
  refine plain (y_move rfl rfl) rfl rfl rfl H1 ?_
  clear H1; intro a2 H2
  refine plain (y_peql rfl Try.underlying29 rfl rfl) rfl rfl rfl H2 ?_
  clear H2; intro a3 H3
  refine plain (y_move rfl rfl) rfl rfl rfl H3 ?_
  clear H3; intro a4 H4
  have H6 := H4.know (d := 7) (v := .bool false) rfl (rfl)
  clear H4
  refine plain (y_move rfl rfl) rfl rfl rfl H6 ?_
  clear H6; intro a7 H7
  refine plain (y_lss rfl rfl rfl) rfl rfl rfl H7 ?_
  clear H7; intro a8 H8
  refine plain (y_pick_f rfl rfl rfl) rfl rfl rfl H8 ?_
  clear H8; intro a9 H9
  refine plain (y_move rfl rfl) rfl rfl rfl H9 ?_
  clear H9; intro a10 H10
  refine part_d (d := 11) H10 rfl (fun hg11 => ?_) (fun hg11 => ?_)
  · first
    | fail
    | skip
      clear H10; intro H12
      refine skip rfl rfl rfl H12 ?_
      clear H12; intro a13 H13
      refine skip rfl rfl rfl H13 ?_
      clear H13; intro a14 H14
      refine plain (y_pick_t rfl rfl rfl) rfl rfl rfl H14 ?_
      clear H14; intro a15 H15
      refine fin ?_
      refine then_n ?_
      refine cnd_t H15 rfl ?_
      refine wp_seq ?_
      refine reg ?_
      refine plain (y_assign rfl rfl) rfl rfl rfl H15 ?_
      clear H15; intro a17 H17
      refine fin ?_
      refine then_n ?_
      refine wp_ret ?_
      refine then_r ?_
      -- return 1
      refine ret1 rfl H17 rfl ?_
      exact ⟨_, _, rfl, ⟨[], rfl, by rw [Bank.of_out (by omega)], rfl⟩, H17.sep⟩
  · first
    | fail
    | skip
      clear H10; intro H18
      refine plain (y_move rfl rfl) rfl rfl rfl H18 ?_
      clear H18; intro a19 H19
      refine plain (y_geq rfl rfl rfl) rfl rfl rfl H19 ?_
      clear H19; intro a20 H20
      refine plain (y_pick_f rfl rfl rfl) rfl rfl rfl H20 ?_
      clear H20; intro a21 H21
      refine fin ?_
      refine then_n ?_
      refine cnd_d H21 rfl (fun hc22 => ?_) (fun hc22 => ?_) -- cond 2
      · skip
        refine wp_seq ?_
        refine reg ?_
        refine plain (y_assign rfl rfl) rfl rfl rfl H21 ?_
        clear H21; intro a23 H23
        refine fin ?_
        refine then_n ?_
        refine wp_ret ?_
        refine then_r ?_
        -- return 2
        refine ret1 rfl H23 rfl ?_
        exact ⟨_, _, rfl, ⟨[], rfl, by rw [Bank.of_out (by omega)], rfl⟩, H23.sep⟩
      · skip
        refine wp_skip ?_
        refine then_n ?_
        refine wp_seq ?_
        refine reg ?_
        refine plain (y_move rfl rfl) rfl rfl rfl H21 ?_
        clear H21; intro a24 H24
        refine plain (y_move rfl rfl) rfl rfl rfl H24 ?_
        clear H24; intro a25 H25
        refine plain (y_nilCheck rfl rfl) rfl rfl rfl H25 ?_
        clear H25; intro a26 H26
        refine plain (y_fieldB rfl z_field69_0 rfl (by first | (simp only [Nat.zero_add, Nat.add_zero, Nat.reduceAdd]; rfl) | rfl)) rfl rfl rfl H26 ?_
        clear H26; intro a27 H27
        refine plain (y_ixA rfl Try.underlying67 z_size3 rfl rfl (by omega) (by omega) rfl) rfl rfl rfl H27 ?_
        clear H27; intro a28 H28
        refine plain (y_loadB rfl z_agg3 rfl (by repeat (first | exact List.Mem.head _ | apply List.Mem.tail)) (i64_getI _ _ (by omega) (by omega))) rfl rfl rfl H28 ?_
        clear H28; intro a29 H29
        refine plain (y_assign rfl rfl) rfl rfl rfl H29 ?_
        clear H29; intro a30 H30
        refine fin ?_
        refine then_n ?_
        refine wp_ret ?_
        -- return 3
        refine ret1 rfl H30 rfl ?_
        exact ⟨_, _, rfl, ⟨[], rfl, by rw [Bank.of_in (by omega)], rfl⟩, H30.sep⟩
theorem bof (b : Nat) (L : List Int) (hL : Bank.Ok L) (who : Int) {w : World} (hp : (It.blk b 69 (L.map i64)).P w) : Calls Try.prog 28 #[.pointer (some ⟨b, 0, none⟩), .int .i64 who] w (Gives (.int .i64 (Bank.of L who)) [] w) := Post.still hp (bof0 b L hL who hp)
set_option maxRecDepth 100000 in
set_option maxHeartbeats 1000000 in
theorem bofN (who : Int) (w : World) : Calls Try.prog 28 #[.pointer none, .int .i64 who] w (Gives (.int .i64 0) [] w) := by
  refine enterL (args := [.pointer none, .int .i64 who]) Try.func28 rfl rfl (l := []) (Sep.refl _) ?_
  intro a0 H0
  refine wp_seq ?_
  refine reg ?_
  refine plain (y_assign rfl rfl) rfl rfl rfl H0 ?_
  clear H0; intro a1 H1
  refine fin ?_
  refine then_n ?_
  refine wp_seq ?_
  refine wp_seq ?_
  refine reg ?_
  refine plain (y_move rfl rfl) rfl rfl rfl H1 ?_
  clear H1; intro a2 H2
  refine plain (y_peql rfl Try.underlying29 rfl rfl) rfl rfl rfl H2 ?_
  clear H2; intro a3 H3
  refine plain (y_move rfl rfl) rfl rfl rfl H3 ?_
  clear H3; intro a4 H4
  have H6 := H4.know (d := 7) (v := .bool true) rfl (rfl)
  clear H4
  refine skip rfl rfl rfl H6 ?_
  clear H6; intro a7 H7
  refine skip rfl rfl rfl H7 ?_
  clear H7; intro a8 H8
  refine plain (y_pick_t rfl rfl rfl) rfl rfl rfl H8 ?_
  clear H8; intro a9 H9
  refine plain (y_move rfl rfl) rfl rfl rfl H9 ?_
  clear H9; intro a10 H10
  refine skip rfl rfl rfl H10 ?_
  clear H10; intro a11 H11
  refine skip rfl rfl rfl H11 ?_
  clear H11; intro a12 H12
  refine plain (y_pick_t rfl rfl rfl) rfl rfl rfl H12 ?_
  clear H12; intro a13 H13
  refine fin ?_
  refine then_n ?_
  refine cnd_t H13 rfl ?_
  refine wp_seq ?_
  refine reg ?_
  refine plain (y_assign rfl rfl) rfl rfl rfl H13 ?_
  clear H13; intro a15 H15
  refine fin ?_
  refine then_n ?_
  refine wp_ret ?_
  refine then_r ?_
  -- return 1
  refine ret1 rfl H15 rfl ?_
  exact ⟨_, [], rfl, ⟨rfl, rfl⟩, H15.sep.sub (List.nil_sublist _)⟩
set_option maxRecDepth 100000 in
set_option maxHeartbeats 1000000 in
theorem ball0 (b : Nat) (L : List Int) (hL : Bank.Ok L)  {w : World} (hp : (It.blk b 69 (L.map i64)).P w) : Calls Try.prog 27 #[.pointer (some ⟨b, 0, none⟩)] w (Post [b] w (fun u l => ∃ l', l = l' ++ [It.blk b 69 (L.map i64)] ∧ l' = [It.row 3 1 u 64 (L.map i64)])) := by
  have hlen := hL.len
  refine enterL (args := [.pointer (some ⟨b, 0, none⟩)]) Try.func27 rfl rfl (l := [It.blk b 69 (L.map i64)]) (Sep.one hp) ?_
  intro a0 H0
  refine wp_seq ?_
  refine reg ?_
  refine plain (y_assign rfl rfl) rfl rfl rfl H0 ?_
  clear H0; intro a1 H1
  refine fin ?_
  refine then_n ?_
  refine wp_seq ?_
  refine wp_seq ?_
  refine reg ?_
  refine plain (y_move rfl rfl) rfl rfl rfl H1 ?_
  clear H1; intro a2 H2
  refine plain (y_peql rfl Try.underlying29 rfl rfl) rfl rfl rfl H2 ?_
  clear H2; intro a3 H3
  refine fin ?_
  refine then_n ?_
  refine cnd_f H3 rfl ?_
  refine wp_skip ?_
  refine then_n ?_
  refine wp_seq ?_
  refine reg ?_
  refine st_buildSlice1 (xs := []) rfl Try.underlying39 z_size3 z_zero3 rfl rfl rfl rfl rfl rfl rfl rfl rfl H3 ?_
  clear H3; intro b5 a5 w5 H5
  refine plain (y_move rfl rfl) rfl rfl rfl H5 ?_
  clear H5; intro a6 H6
  refine plain (y_nilCheck rfl rfl) rfl rfl rfl H6 ?_
  clear H6; intro a7 H7
  refine plain (y_fieldB rfl z_field69_0 rfl (by first | (simp only [Nat.zero_add, Nat.add_zero, Nat.reduceAdd]; rfl) | rfl)) rfl rfl rfl H7 ?_
  clear H7; intro a8 H8
  refine plain (y_slA_all rfl Try.underlying67 z_size3 (by decide) rfl) rfl rfl rfl H8 ?_
  clear H8; intro a9 H9
  replace H9 := H9.asRow (size := 1) (m := 0) (by repeat (first | exact Upd.head _ _ _ | apply Upd.tail)) rfl (by unfold maxLen; omega)
  refine st_append rfl z_slice39 z_notint39 rfl rfl (fun _ => (by repeat (first | exact Upd.head _ _ _ | apply Upd.tail))) (fun w hs => Src.slice (m := 64) (rd_blkA (by repeat (first | exact List.Mem.head _ | apply List.Mem.tail)) w hs) (by simp [hlen]) (by simp [i64, Value.oneCell'])) (by unfold maxLen; omega) (by omega) rfl rfl rfl H9 ?_
  clear H9; intro v10 a10 w10 hnil10 H10
  refine plain (y_assign rfl rfl) rfl rfl rfl H10 ?_
  clear H10; intro a11 H11
  refine fin ?_
  refine then_n ?_
  refine wp_ret ?_
  -- return 1
  refine ret1 rfl H11 rfl ?_
  refine ⟨_, _, rfl, ⟨[It.row 3 1 v10 64 (L.map i64)], rfl, rfl⟩, ?_⟩
  have hz := H11.sep
  simp only [hlen, List.nil_append, Nat.zero_add] at hz
  exact hz
theorem ball (b : Nat) (L : List Int) (hL : Bank.Ok L)  {w : World} (hp : (It.blk b 69 (L.map i64)).P w) : Calls Try.prog 27 #[.pointer (some ⟨b, 0, none⟩)] w (Post [] w fun u l => l = [It.row 3 1 u 64 (L.map i64)]) := Post.still hp (ball0 b L hL hp)
set_option maxRecDepth 100000 in
set_option maxHeartbeats 1000000 in
theorem ballN (w : World) : Calls Try.prog 27 #[.pointer none] w (Gives (.slice none 0 0) [] w) := by
  refine enterL (args := [.pointer none]) Try.func27 rfl rfl (l := []) (Sep.refl _) ?_
  intro a0 H0
  refine wp_seq ?_
  refine reg ?_
  refine plain (y_assign rfl rfl) rfl rfl rfl H0 ?_
  clear H0; intro a1 H1
  refine fin ?_
  refine then_n ?_
  refine wp_seq ?_
  refine wp_seq ?_
  refine reg ?_
  refine plain (y_move rfl rfl) rfl rfl rfl H1 ?_
  clear H1; intro a2 H2
  refine plain (y_peql rfl Try.underlying29 rfl rfl) rfl rfl rfl H2 ?_
  clear H2; intro a3 H3
  refine fin ?_
  refine then_n ?_
  refine cnd_t H3 rfl ?_
  refine wp_seq ?_
  refine reg ?_
  refine plain (y_assign rfl rfl) rfl rfl rfl H3 ?_
  clear H3; intro a5 H5
  refine fin ?_
  refine then_n ?_
  refine wp_ret ?_
  refine then_r ?_
  -- return 1
  refine ret1 rfl H5 rfl ?_
  exact ⟨_, [], rfl, ⟨rfl, rfl⟩, H5.sep.sub (List.nil_sublist _)⟩
set_option maxRecDepth 100000 in
set_option maxHeartbeats 1000000 in
theorem btotal (b : Nat) (L : List Int) (hL : Bank.Ok L)  {w : World} (hp : (It.blk b 69 (L.map i64)).P w) : Calls Try.prog 29 #[.pointer (some ⟨b, 0, none⟩)] w (Gives (.int .i64 L.sum) [] w) := by
  have hlen := hL.len
  refine enterL (args := [.pointer (some ⟨b, 0, none⟩)]) Try.func29 rfl rfl (l := []) (Sep.refl _) ?_
  intro a0 H0
  refine wp_seq ?_
  refine reg ?_
  refine plain (y_assign rfl rfl) rfl rfl rfl H0 ?_
  clear H0; intro a1 H1
  refine fin ?_
  refine then_n ?_
  refine wp_seq ?_
  refine reg ?_
  refine plain (y_assign rfl rfl) rfl rfl rfl H1 ?_
  clear H1; intro a2 H2
  refine fin ?_
  refine then_n ?_
  refine wp_seq ?_
  refine wp_seq ?_
  refine reg ?_
  refine plain (y_move rfl rfl) rfl rfl rfl H2 ?_
  clear H2; intro a3 H3
  refine fin ?_
  refine then_n ?_
  refine wp_block ?_
  refine loop (ι := Nat) (fun k => [(0, .pointer (some ⟨b, 0, none⟩)), (3, .int .i64 (Bank.sumTo L k)), (5, .int .i64 (k : Int))]) (fun k => []) (fun k => k ≤ 64) (fun k => 64 - k) (0) (Nat.zero_le _) (H3.weak ⟨rfl, fi rfl (by rw [Bank.sumTo_zero]), rfl, trivial⟩ rfl) ?_
  clear H3; intro k a4 w4 hok4 H4
  have hok := hok4
  have hs := Bank.sumTo_le hL k hok
  have ho := Bank.of_le hL (k : Int)
  refine wp_seq ?_
  refine reg ?_
  refine plain (y_lss rfl rfl rfl) rfl rfl rfl H4 ?_
  clear H4; intro a5 H5
  refine fin ?_
  refine then_n ?_
  refine wp_seq ?_
  refine cnd_d H5 rfl (fun hc6 => ?_) (fun hc6 => ?_) -- cond 1
  · skip
    refine wp_skip ?_
    refine then_n ?_
    refine wp_seq ?_
    refine wp_block ?_
    refine wp_seq ?_
    refine reg ?_
    refine plain (y_move rfl rfl) rfl rfl rfl H5 ?_
    clear H5; intro a7 H7
    refine plain (y_assign rfl rfl) rfl rfl rfl H7 ?_
    clear H7; intro a8 H8
    refine fin ?_
    refine then_n ?_
    refine reg ?_
    refine plain (y_move rfl rfl) rfl rfl rfl H8 ?_
    clear H8; intro a9 H9
    refine plain (y_move rfl rfl) rfl rfl rfl H9 ?_
    clear H9; intro a10 H10
    refine plain (y_move rfl rfl) rfl rfl rfl H10 ?_
    clear H10; intro a11 H11
    refine st_callg rfl z_call28 rfl rfl rfl rfl H11 (bof b L hL _ (H11.sep.keep hp)) ?_
    clear H11; intro a12 w12 H12
    refine plain (y_add rfl rfl rfl (by first | exact w64 (by omega) (by omega) | rfl)) rfl rfl rfl H12 ?_
    clear H12; intro a13 H13
    refine plain (y_assign rfl rfl) rfl rfl rfl H13 ?_
    clear H13; intro a14 H14
    refine fin ?_
    refine inb_n ?_
    refine then_n ?_
    refine reg ?_
    refine plain (y_add rfl rfl rfl (by first | exact w64 (by omega) (by omega) | rfl)) rfl rfl rfl H14 ?_
    clear H14; intro a15 H15
    refine plain (y_move rfl rfl) rfl rfl rfl H15 ?_
    clear H15; intro a16 H16
    refine fin ?_
    refine then_n ?_
    refine ⟨k + 1, by omega, by omega, H16.weak ⟨rfl, fi rfl ?_, fi rfl (by omega), trivial⟩ rfl⟩
    rw [Bank.sumTo_succ (by omega), Bank.of_in (by omega), Int.toNat_natCast]
  · skip
    refine wp_exit ?_
    refine then_x ?_
    refine then_x ?_
    refine inb_hit ?_
    refine then_n ?_
    refine wp_seq ?_
    refine reg ?_
    refine plain (y_move rfl rfl) rfl rfl rfl H5 ?_
    clear H5; intro a17 H17
    refine plain (y_assign rfl rfl) rfl rfl rfl H17 ?_
    clear H17; intro a18 H18
    refine fin ?_
    refine then_n ?_
    refine wp_ret ?_
    -- return 1
    refine ret1 rfl H18 rfl ?_
    exact ⟨_, [], rfl, ⟨by rw [Bank.sumTo_all (by omega)], rfl⟩, H18.sep.sub (List.nil_sublist _)⟩
set_option maxRecDepth 100000 in
set_option maxHeartbeats 1000000 in
theorem btotalN (w : World) : Calls Try.prog 29 #[.pointer none] w (Gives (.int .i64 0) [] w) := by
  refine enterL (args := [.pointer none]) Try.func29 rfl rfl (l := []) (Sep.refl _) ?_
  intro a0 H0
  refine wp_seq ?_
  refine reg ?_
  refine plain (y_assign rfl rfl) rfl rfl rfl H0 ?_
  clear H0; intro a1 H1
  refine fin ?_
  refine then_n ?_
  refine wp_seq ?_
  refine reg ?_
  refine plain (y_assign rfl rfl) rfl rfl rfl H1 ?_
  clear H1; intro a2 H2
  refine fin ?_
  refine then_n ?_
  refine wp_seq ?_
  refine wp_seq ?_
  refine reg ?_
  refine plain (y_move rfl rfl) rfl rfl rfl H2 ?_
  clear H2; intro a3 H3
  refine fin ?_
  refine then_n ?_
  refine wp_block ?_
  refine loop (ι := Nat) (fun k => [(0, .pointer none), (3, .int .i64 0), (5, .int .i64 (k : Int))]) (fun k => []) (fun k => k ≤ 64) (fun k => 64 - k) (0) (Nat.zero_le _) (H3.weak ⟨rfl, rfl, rfl, trivial⟩ rfl) ?_
  clear H3; intro k a4 w4 hok4 H4
  have hok := hok4
  refine wp_seq ?_
  refine reg ?_
  refine plain (y_lss rfl rfl rfl) rfl rfl rfl H4 ?_
  clear H4; intro a5 H5
  refine fin ?_
  refine then_n ?_
  refine wp_seq ?_
  refine cnd_d H5 rfl (fun hc6 => ?_) (fun hc6 => ?_) -- cond 1
  · skip
    refine wp_skip ?_
    refine then_n ?_
    refine wp_seq ?_
    refine wp_block ?_
    refine wp_seq ?_
    refine reg ?_
    refine plain (y_move rfl rfl) rfl rfl rfl H5 ?_
    clear H5; intro a7 H7
    refine plain (y_assign rfl rfl) rfl rfl rfl H7 ?_
    clear H7; intro a8 H8
    refine fin ?_
    refine then_n ?_
    refine reg ?_
    refine plain (y_move rfl rfl) rfl rfl rfl H8 ?_
    clear H8; intro a9 H9
    refine plain (y_move rfl rfl) rfl rfl rfl H9 ?_
    clear H9; intro a10 H10
    refine plain (y_move rfl rfl) rfl rfl rfl H10 ?_
    clear H10; intro a11 H11
    refine st_callg rfl z_call28 rfl rfl rfl rfl H11 (bofN _ _) ?_
    clear H11; intro a12 w12 H12
    refine plain (y_add rfl rfl rfl (by first | exact w64 (by omega) (by omega) | rfl)) rfl rfl rfl H12 ?_
    clear H12; intro a13 H13
    refine plain (y_assign rfl rfl) rfl rfl rfl H13 ?_
    clear H13; intro a14 H14
    refine fin ?_
    refine inb_n ?_
    refine then_n ?_
    refine reg ?_
    refine plain (y_add rfl rfl rfl (by first | exact w64 (by omega) (by omega) | rfl)) rfl rfl rfl H14 ?_
    clear H14; intro a15 H15
    refine plain (y_move rfl rfl) rfl rfl rfl H15 ?_
    clear H15; intro a16 H16
    refine fin ?_
    refine then_n ?_
    exact ⟨k + 1, by omega, by omega, H16.weak ⟨rfl, rfl, fi rfl (by omega), trivial⟩ rfl⟩
  · skip
    refine wp_exit ?_
    refine then_x ?_
    refine then_x ?_
    refine inb_hit ?_
    refine then_n ?_
    refine wp_seq ?_
    refine reg ?_
    refine plain (y_move rfl rfl) rfl rfl rfl H5 ?_
    clear H5; intro a17 H17
    refine plain (y_assign rfl rfl) rfl rfl rfl H17 ?_
    clear H17; intro a18 H18
    refine fin ?_
    refine then_n ?_
    refine wp_ret ?_
    -- return 1
    refine ret1 rfl H18 rfl ?_
    exact ⟨_, [], rfl, ⟨rfl, rfl⟩, H18.sep.sub (List.nil_sublist _)⟩
set_option maxRecDepth 100000 in
set_option maxHeartbeats 1000000 in
theorem bdo (b : Nat) (L : List Int) (hL : Bank.Ok L) (c : Bank.Act) {w : World} (hp : (It.blk b 69 (L.map i64)).P w) : Calls Try.prog 25 #[.pointer (some ⟨b, 0, none⟩), .agg #[.int .i64 c.k, .int .i64 c.a, .int .i64 c.b, .int .i64 c.n]] w (Turns (.int .i64 (Bank.doo L c).1) (It.blk b 69 (L.map i64)) (It.blk b 69 ((Bank.doo L c).2.map i64)) w) := by
  refine enterL (args := [.pointer (some ⟨b, 0, none⟩), .agg #[.int .i64 c.k, .int .i64 c.a, .int .i64 c.b, .int .i64 c.n]]) Try.func25 rfl rfl (l := [It.blk b 69 (L.map i64)]) (Sep.one hp) ?_
  intro a0 H0
  refine wp_seq ?_
  refine reg ?_
  refine st_box rfl rfl rfl rfl rfl rfl H0 ?_
  clear H0; intro b1 a1 w1 H1
  refine plain (y_assign rfl rfl) rfl rfl rfl H1 ?_
  clear H1; intro a2 H2
  refine fin ?_
  refine then_n ?_
  refine wp_seq ?_
  refine wp_seq ?_
  refine reg ?_
  refine plain (y_fieldB rfl z_field34_0 rfl (by first | (simp only [Nat.zero_add, Nat.add_zero, Nat.reduceAdd]; rfl) | rfl)) rfl rfl rfl H2 ?_
  clear H2; intro a3 H3
  refine plain (y_loadB rfl z_agg3 rfl (by repeat (first | exact List.Mem.head _ | apply List.Mem.tail)) rfl) rfl rfl rfl H3 ?_
  clear H3; intro a4 H4
  refine fin ?_
  refine then_n ?_
  refine wp_block ?_
  refine wp_seq ?_
  refine wp_seq ?_
  refine reg ?_
  refine plain (y_eql rfl rfl rfl) rfl rfl rfl H4 ?_
  clear H4; intro a5 H5
  refine plain (y_assign rfl rfl) rfl rfl rfl H5 ?_
  clear H5; intro a6 H6
  refine fin ?_
  refine then_n ?_
  refine cnd_d H6 rfl (fun hc7 => ?_) (fun hc7 => ?_) -- cond 1
  · first
    | (exfalso; omega)
    | skip
      refine wp_skip ?_
      refine then_n ?_
      refine cnd_d H6 rfl (fun hc8 => ?_) (fun hc8 => ?_) -- cond 2
      · first
        | (exfalso; omega)
        | skip
          refine wp_seq ?_
          refine reg ?_
          refine plain (y_move rfl rfl) rfl rfl rfl H6 ?_
          clear H6; intro a9 H9
          refine plain (y_fieldB rfl z_field34_1 rfl (by first | (simp only [Nat.zero_add, Nat.add_zero, Nat.reduceAdd]; rfl) | rfl)) rfl rfl rfl H9 ?_
          clear H9; intro a10 H10
          refine plain (y_loadB rfl z_agg3 rfl (by repeat (first | exact List.Mem.head _ | apply List.Mem.tail)) rfl) rfl rfl rfl H10 ?_
          clear H10; intro a11 H11
          refine plain (y_fieldB rfl z_field34_3 rfl (by first | (simp only [Nat.zero_add, Nat.add_zero, Nat.reduceAdd]; rfl) | rfl)) rfl rfl rfl H11 ?_
          clear H11; intro a12 H12
          refine plain (y_loadB rfl z_agg3 rfl (by repeat (first | exact List.Mem.head _ | apply List.Mem.tail)) rfl) rfl rfl rfl H12 ?_
          clear H12; intro a13 H13
          refine st_callu rfl z_call30 rfl rfl rfl rfl H13 (bput b L hL _ _ (H13.sep.all _ (by repeat (first | exact List.Mem.head _ | apply List.Mem.tail)))) (by repeat (first | exact Upd.head _ _ _ | apply Upd.tail)) ?_
          clear H13; intro a14 w14 H14
          refine plain (y_assign rfl rfl) rfl rfl rfl H14 ?_
          clear H14; intro a15 H15
          refine fin ?_
          refine then_n ?_
          refine wp_ret ?_
          refine inb_r ?_
          refine then_r ?_
          -- return 1
          refine ret1 rfl H15 rfl ?_
          first | (rw [Bank.doo_put (by omega)]; exact Turns.ret (H15.sep.sub (List.Sublist.cons _ (List.Sublist.refl _)))) | (rw [Bank.doo_take (by omega)]; exact Turns.ret (H15.sep.sub (List.Sublist.cons _ (List.Sublist.refl _)))) | (rw [Bank.doo_move (by omega) (by omega)]; exact Turns.ret (H15.sep.sub (List.Sublist.cons _ (List.Sublist.refl _))))
      · first
        | (exfalso; omega)
        | skip
          refine wp_seq ?_
          refine reg ?_
          refine plain (y_eql rfl rfl rfl) rfl rfl rfl H6 ?_
          clear H6; intro a16 H16
          refine plain (y_assign rfl rfl) rfl rfl rfl H16 ?_
          clear H16; intro a17 H17
          refine fin ?_
          refine then_n ?_
          refine cnd_d H17 rfl (fun hc18 => ?_) (fun hc18 => ?_) -- cond 3
          · first
            | (exfalso; omega)
            | skip
              refine wp_seq ?_
              refine reg ?_
              refine plain (y_move rfl rfl) rfl rfl rfl H17 ?_
              clear H17; intro a19 H19
              refine plain (y_fieldB rfl z_field34_1 rfl (by first | (simp only [Nat.zero_add, Nat.add_zero, Nat.reduceAdd]; rfl) | rfl)) rfl rfl rfl H19 ?_
              clear H19; intro a20 H20
              refine plain (y_loadB rfl z_agg3 rfl (by repeat (first | exact List.Mem.head _ | apply List.Mem.tail)) rfl) rfl rfl rfl H20 ?_
              clear H20; intro a21 H21
              refine plain (y_fieldB rfl z_field34_3 rfl (by first | (simp only [Nat.zero_add, Nat.add_zero, Nat.reduceAdd]; rfl) | rfl)) rfl rfl rfl H21 ?_
              clear H21; intro a22 H22
              refine plain (y_loadB rfl z_agg3 rfl (by repeat (first | exact List.Mem.head _ | apply List.Mem.tail)) rfl) rfl rfl rfl H22 ?_
              clear H22; intro a23 H23
              refine st_callu rfl z_call31 rfl rfl rfl rfl H23 (btake b L hL _ _ (H23.sep.all _ (by repeat (first | exact List.Mem.head _ | apply List.Mem.tail)))) (by repeat (first | exact Upd.head _ _ _ | apply Upd.tail)) ?_
              clear H23; intro a24 w24 H24
              refine plain (y_assign rfl rfl) rfl rfl rfl H24 ?_
              clear H24; intro a25 H25
              refine fin ?_
              refine then_n ?_
              refine wp_ret ?_
              refine inb_r ?_
              refine then_r ?_
              -- return 2
              refine ret1 rfl H25 rfl ?_
              first | (rw [Bank.doo_put (by omega)]; exact Turns.ret (H25.sep.sub (List.Sublist.cons _ (List.Sublist.refl _)))) | (rw [Bank.doo_take (by omega)]; exact Turns.ret (H25.sep.sub (List.Sublist.cons _ (List.Sublist.refl _)))) | (rw [Bank.doo_move (by omega) (by omega)]; exact Turns.ret (H25.sep.sub (List.Sublist.cons _ (List.Sublist.refl _))))
          · first
            | (exfalso; omega)
            | skip
              refine wp_skip ?_
              refine inb_n ?_
              refine then_n ?_
              refine wp_seq ?_
              refine reg ?_
              refine plain (y_move rfl rfl) rfl rfl rfl H17 ?_
              clear H17; intro a26 H26
              refine plain (y_fieldB rfl z_field34_1 rfl (by first | (simp only [Nat.zero_add, Nat.add_zero, Nat.reduceAdd]; rfl) | rfl)) rfl rfl rfl H26 ?_
              clear H26; intro a27 H27
              refine plain (y_loadB rfl z_agg3 rfl (by repeat (first | exact List.Mem.head _ | apply List.Mem.tail)) rfl) rfl rfl rfl H27 ?_
              clear H27; intro a28 H28
              refine plain (y_fieldB rfl z_field34_2 rfl (by first | (simp only [Nat.zero_add, Nat.add_zero, Nat.reduceAdd]; rfl) | rfl)) rfl rfl rfl H28 ?_
              clear H28; intro a29 H29
              refine plain (y_loadB rfl z_agg3 rfl (by repeat (first | exact List.Mem.head _ | apply List.Mem.tail)) rfl) rfl rfl rfl H29 ?_
              clear H29; intro a30 H30
              refine plain (y_fieldB rfl z_field34_3 rfl (by first | (simp only [Nat.zero_add, Nat.add_zero, Nat.reduceAdd]; rfl) | rfl)) rfl rfl rfl H30 ?_
              clear H30; intro a31 H31
              refine plain (y_loadB rfl z_agg3 rfl (by repeat (first | exact List.Mem.head _ | apply List.Mem.tail)) rfl) rfl rfl rfl H31 ?_
              clear H31; intro a32 H32
              refine st_callu rfl z_call32 rfl rfl rfl rfl H32 (bmove b L hL _ _ _ (H32.sep.all _ (by repeat (first | exact List.Mem.head _ | apply List.Mem.tail)))) (by repeat (first | exact Upd.head _ _ _ | apply Upd.tail)) ?_
              clear H32; intro a33 w33 H33
              refine plain (y_assign rfl rfl) rfl rfl rfl H33 ?_
              clear H33; intro a34 H34
              refine fin ?_
              refine then_n ?_
              refine wp_ret ?_
              -- return 3
              refine ret1 rfl H34 rfl ?_
              first | (rw [Bank.doo_put (by omega)]; exact Turns.ret (H34.sep.sub (List.Sublist.cons _ (List.Sublist.refl _)))) | (rw [Bank.doo_take (by omega)]; exact Turns.ret (H34.sep.sub (List.Sublist.cons _ (List.Sublist.refl _)))) | (rw [Bank.doo_move (by omega) (by omega)]; exact Turns.ret (H34.sep.sub (List.Sublist.cons _ (List.Sublist.refl _))))
  · first
    | (exfalso; omega)
    | skip
      refine reg ?_
      refine plain (y_eql rfl rfl rfl) rfl rfl rfl H6 ?_
      clear H6; intro a35 H35
      refine plain (y_assign rfl rfl) rfl rfl rfl H35 ?_
      clear H35; intro a36 H36
      refine fin ?_
      refine then_n ?_
      refine cnd_d H36 rfl (fun hc37 => ?_) (fun hc37 => ?_) -- cond 4
      · first
        | (exfalso; omega)
        | skip
          refine wp_seq ?_
          refine reg ?_
          refine plain (y_move rfl rfl) rfl rfl rfl H36 ?_
          clear H36; intro a38 H38
          refine plain (y_fieldB rfl z_field34_1 rfl (by first | (simp only [Nat.zero_add, Nat.add_zero, Nat.reduceAdd]; rfl) | rfl)) rfl rfl rfl H38 ?_
          clear H38; intro a39 H39
          refine plain (y_loadB rfl z_agg3 rfl (by repeat (first | exact List.Mem.head _ | apply List.Mem.tail)) rfl) rfl rfl rfl H39 ?_
          clear H39; intro a40 H40
          refine plain (y_fieldB rfl z_field34_3 rfl (by first | (simp only [Nat.zero_add, Nat.add_zero, Nat.reduceAdd]; rfl) | rfl)) rfl rfl rfl H40 ?_
          clear H40; intro a41 H41
          refine plain (y_loadB rfl z_agg3 rfl (by repeat (first | exact List.Mem.head _ | apply List.Mem.tail)) rfl) rfl rfl rfl H41 ?_
          clear H41; intro a42 H42
          refine st_callu rfl z_call30 rfl rfl rfl rfl H42 (bput b L hL _ _ (H42.sep.all _ (by repeat (first | exact List.Mem.head _ | apply List.Mem.tail)))) (by repeat (first | exact Upd.head _ _ _ | apply Upd.tail)) ?_
          clear H42; intro a43 w43 H43
          refine plain (y_assign rfl rfl) rfl rfl rfl H43 ?_
          clear H43; intro a44 H44
          refine fin ?_
          refine then_n ?_
          refine wp_ret ?_
          refine inb_r ?_
          refine then_r ?_
          -- return 4
          refine ret1 rfl H44 rfl ?_
          first | (rw [Bank.doo_put (by omega)]; exact Turns.ret (H44.sep.sub (List.Sublist.cons _ (List.Sublist.refl _)))) | (rw [Bank.doo_take (by omega)]; exact Turns.ret (H44.sep.sub (List.Sublist.cons _ (List.Sublist.refl _)))) | (rw [Bank.doo_move (by omega) (by omega)]; exact Turns.ret (H44.sep.sub (List.Sublist.cons _ (List.Sublist.refl _))))
      · first
        | (exfalso; omega)
        | skip
          refine wp_seq ?_
          refine reg ?_
          refine plain (y_eql rfl rfl rfl) rfl rfl rfl H36 ?_
          clear H36; intro a45 H45
          refine plain (y_assign rfl rfl) rfl rfl rfl H45 ?_
          clear H45; intro a46 H46
          refine fin ?_
          refine then_n ?_
          refine cnd_d H46 rfl (fun hc47 => ?_) (fun hc47 => ?_) -- cond 5
          · first
            | (exfalso; omega)
            | skip
              refine wp_seq ?_
              refine reg ?_
              refine plain (y_move rfl rfl) rfl rfl rfl H46 ?_
              clear H46; intro a48 H48
              refine plain (y_fieldB rfl z_field34_1 rfl (by first | (simp only [Nat.zero_add, Nat.add_zero, Nat.reduceAdd]; rfl) | rfl)) rfl rfl rfl H48 ?_
              clear H48; intro a49 H49
              refine plain (y_loadB rfl z_agg3 rfl (by repeat (first | exact List.Mem.head _ | apply List.Mem.tail)) rfl) rfl rfl rfl H49 ?_
              clear H49; intro a50 H50
              refine plain (y_fieldB rfl z_field34_3 rfl (by first | (simp only [Nat.zero_add, Nat.add_zero, Nat.reduceAdd]; rfl) | rfl)) rfl rfl rfl H50 ?_
              clear H50; intro a51 H51
              refine plain (y_loadB rfl z_agg3 rfl (by repeat (first | exact List.Mem.head _ | apply List.Mem.tail)) rfl) rfl rfl rfl H51 ?_
              clear H51; intro a52 H52
              refine st_callu rfl z_call31 rfl rfl rfl rfl H52 (btake b L hL _ _ (H52.sep.all _ (by repeat (first | exact List.Mem.head _ | apply List.Mem.tail)))) (by repeat (first | exact Upd.head _ _ _ | apply Upd.tail)) ?_
              clear H52; intro a53 w53 H53
              refine plain (y_assign rfl rfl) rfl rfl rfl H53 ?_
              clear H53; intro a54 H54
              refine fin ?_
              refine then_n ?_
              refine wp_ret ?_
              refine inb_r ?_
              refine then_r ?_
              -- return 5
              refine ret1 rfl H54 rfl ?_
              first | (rw [Bank.doo_put (by omega)]; exact Turns.ret (H54.sep.sub (List.Sublist.cons _ (List.Sublist.refl _)))) | (rw [Bank.doo_take (by omega)]; exact Turns.ret (H54.sep.sub (List.Sublist.cons _ (List.Sublist.refl _)))) | (rw [Bank.doo_move (by omega) (by omega)]; exact Turns.ret (H54.sep.sub (List.Sublist.cons _ (List.Sublist.refl _))))
          · first
            | (exfalso; omega)
            | skip
              refine wp_skip ?_
              refine inb_n ?_
              refine then_n ?_
              refine wp_seq ?_
              refine reg ?_
              refine plain (y_move rfl rfl) rfl rfl rfl H46 ?_
              clear H46; intro a55 H55
              refine plain (y_fieldB rfl z_field34_1 rfl (by first | (simp only [Nat.zero_add, Nat.add_zero, Nat.reduceAdd]; rfl) | rfl)) rfl rfl rfl H55 ?_
              clear H55; intro a56 H56
              refine plain (y_loadB rfl z_agg3 rfl (by repeat (first | exact List.Mem.head _ | apply List.Mem.tail)) rfl) rfl rfl rfl H56 ?_
              clear H56; intro a57 H57
              refine plain (y_fieldB rfl z_field34_2 rfl (by first | (simp only [Nat.zero_add, Nat.add_zero, Nat.reduceAdd]; rfl) | rfl)) rfl rfl rfl H57 ?_
              clear H57; intro a58 H58
              refine plain (y_loadB rfl z_agg3 rfl (by repeat (first | exact List.Mem.head _ | apply List.Mem.tail)) rfl) rfl rfl rfl H58 ?_
              clear H58; intro a59 H59
              refine plain (y_fieldB rfl z_field34_3 rfl (by first | (simp only [Nat.zero_add, Nat.add_zero, Nat.reduceAdd]; rfl) | rfl)) rfl rfl rfl H59 ?_
              clear H59; intro a60 H60
              refine plain (y_loadB rfl z_agg3 rfl (by repeat (first | exact List.Mem.head _ | apply List.Mem.tail)) rfl) rfl rfl rfl H60 ?_
              clear H60; intro a61 H61
              refine st_callu rfl z_call32 rfl rfl rfl rfl H61 (bmove b L hL _ _ _ (H61.sep.all _ (by repeat (first | exact List.Mem.head _ | apply List.Mem.tail)))) (by repeat (first | exact Upd.head _ _ _ | apply Upd.tail)) ?_
              clear H61; intro a62 w62 H62
              refine plain (y_assign rfl rfl) rfl rfl rfl H62 ?_
              clear H62; intro a63 H63
              refine fin ?_
              refine then_n ?_
              refine wp_ret ?_
              -- return 6
              refine ret1 rfl H63 rfl ?_
              first | (rw [Bank.doo_put (by omega)]; exact Turns.ret (H63.sep.sub (List.Sublist.cons _ (List.Sublist.refl _)))) | (rw [Bank.doo_take (by omega)]; exact Turns.ret (H63.sep.sub (List.Sublist.cons _ (List.Sublist.refl _)))) | (rw [Bank.doo_move (by omega) (by omega)]; exact Turns.ret (H63.sep.sub (List.Sublist.cons _ (List.Sublist.refl _))))
set_option maxRecDepth 100000 in
set_option maxHeartbeats 1000000 in
theorem awake (w : World) : Calls Try.prog 21 #[] w (Gives (.bool true) [] w) := by
  refine enterL (args := []) Try.func21 rfl rfl (l := []) (Sep.refl _) ?_
  intro a0 H0
  refine wp_seq ?_
  refine reg ?_
  refine plain (y_assign rfl rfl) rfl rfl rfl H0 ?_
  clear H0; intro a1 H1
  refine fin ?_
  refine then_n ?_
  refine wp_seq ?_
  refine reg ?_
  refine st_call rfl z_call19 rfl rfl rfl rfl H1 (bnew _) ?_
  clear H1; intro v2 l2 a2 w2 hf2 H2
  obtain ⟨b2, rfl, rfl⟩ := hf2
  simp only [List.cons_append, List.nil_append] at H2
  refine plain (y_assign rfl rfl) rfl rfl rfl H2 ?_
  clear H2; intro a3 H3
  refine fin ?_
  refine then_n ?_
  refine wp_seq ?_
  refine reg ?_
  refine plain (y_move rfl rfl) rfl rfl rfl H3 ?_
  clear H3; intro a4 H4
  refine plain (y_pneq rfl Try.underlying29 rfl rfl) rfl rfl rfl H4 ?_
  clear H4; intro a5 H5
  refine plain (y_move rfl rfl) rfl rfl rfl H5 ?_
  clear H5; intro a6 H6
  have H8 := H6.know (d := 5) (v := .bool true) rfl (rfl)
  clear H6
  refine plain (y_move rfl rfl) rfl rfl rfl H8 ?_
  clear H8; intro a9 H9
  refine st_callu rfl z_call30 rfl rfl rfl rfl H9 (bput _ _ Bank.Ok.zero 1 5 (H9.sep.all _ (by repeat (first | exact List.Mem.head _ | apply List.Mem.tail)))) (by repeat (first | exact Upd.head _ _ _ | apply Upd.tail)) ?_
  clear H9; intro a10 w10 H10
  refine plain (y_eql rfl rfl rfl) rfl rfl rfl H10 ?_
  clear H10; intro a11 H11
  refine plain (y_pick_t rfl rfl rfl) rfl rfl rfl H11 ?_
  clear H11; intro a12 H12
  refine plain (y_move rfl rfl) rfl rfl rfl H12 ?_
  clear H12; intro a13 H13
  have H15 := H13.know (d := 10) (v := .bool true) rfl (congrArg Value.bool (decide_eq_true (by decide)))
  clear H13
  refine plain (y_move rfl rfl) rfl rfl rfl H15 ?_
  clear H15; intro a16 H16
  refine st_callu rfl z_call32 rfl rfl rfl rfl H16 (bmove _ _ (Bank.put_keep Bank.Ok.zero 1 5) 1 2 3 (H16.sep.all _ (by repeat (first | exact List.Mem.head _ | apply List.Mem.tail)))) (by repeat (first | exact Upd.head _ _ _ | apply Upd.tail)) ?_
  clear H16; intro a17 w17 H17
  refine plain (y_eql rfl rfl rfl) rfl rfl rfl H17 ?_
  clear H17; intro a18 H18
  refine plain (y_pick_t rfl rfl rfl) rfl rfl rfl H18 ?_
  clear H18; intro a19 H19
  refine plain (y_move rfl rfl) rfl rfl rfl H19 ?_
  clear H19; intro a20 H20
  have H22 := H20.know (d := 15) (v := .bool true) rfl (congrArg Value.bool (decide_eq_true (by decide)))
  clear H20
  refine plain (y_move rfl rfl) rfl rfl rfl H22 ?_
  clear H22; intro a23 H23
  refine st_callg rfl z_call28 rfl rfl rfl rfl H23 (bof _ _ (Bank.move_keep (Bank.put_keep Bank.Ok.zero 1 5) 1 2 3) 2 (H23.sep.all _ (by repeat (first | exact List.Mem.head _ | apply List.Mem.tail)))) ?_
  clear H23; intro a24 w24 H24
  refine plain (y_eql rfl rfl rfl) rfl rfl rfl H24 ?_
  clear H24; intro a25 H25
  refine plain (y_pick_t rfl rfl rfl) rfl rfl rfl H25 ?_
  clear H25; intro a26 H26
  refine plain (y_move rfl rfl) rfl rfl rfl H26 ?_
  clear H26; intro a27 H27
  have H29 := H27.know (d := 20) (v := .bool true) rfl (congrArg Value.bool (decide_eq_true (by decide)))
  clear H27
  refine plain (y_move rfl rfl) rfl rfl rfl H29 ?_
  clear H29; intro a30 H30
  refine st_callu rfl z_call31 rfl rfl rfl rfl H30 (btake _ _ (Bank.move_keep (Bank.put_keep Bank.Ok.zero 1 5) 1 2 3) 1 3 (H30.sep.all _ (by repeat (first | exact List.Mem.head _ | apply List.Mem.tail)))) (by repeat (first | exact Upd.head _ _ _ | apply Upd.tail)) ?_
  clear H30; intro a31 w31 H31
  refine plain (y_eql rfl rfl rfl) rfl rfl rfl H31 ?_
  clear H31; intro a32 H32
  refine plain (y_pick_t rfl rfl rfl) rfl rfl rfl H32 ?_
  clear H32; intro a33 H33
  refine plain (y_move rfl rfl) rfl rfl rfl H33 ?_
  clear H33; intro a34 H34
  have H36 := H34.know (d := 25) (v := .bool true) rfl (congrArg Value.bool (decide_eq_true (by decide)))
  clear H34
  refine plain (y_move rfl rfl) rfl rfl rfl H36 ?_
  clear H36; intro a37 H37
  refine st_callg rfl z_call29 rfl rfl rfl rfl H37 (btotal _ _ (Bank.take_keep (Bank.move_keep (Bank.put_keep Bank.Ok.zero 1 5) 1 2 3) 1 3) (H37.sep.all _ (by repeat (first | exact List.Mem.head _ | apply List.Mem.tail)))) ?_
  clear H37; intro a38 w38 H38
  refine plain (y_eql rfl rfl rfl) rfl rfl rfl H38 ?_
  clear H38; intro a39 H39
  refine plain (y_pick_t rfl rfl rfl) rfl rfl rfl H39 ?_
  clear H39; intro a40 H40
  refine plain (y_assign rfl rfl) rfl rfl rfl H40 ?_
  clear H40; intro a41 H41
  refine fin ?_
  refine then_n ?_
  refine wp_ret ?_
  -- return 1
  refine ret1 rfl H41 rfl ?_
  exact ⟨_, [], rfl, ⟨congrArg Value.bool (decide_eq_true (by decide)), rfl⟩, H41.sep.sub (List.nil_sublist _)⟩
set_option maxRecDepth 100000 in
set_option maxHeartbeats 1000000 in
theorem bankNone (c : Bank.Act) (w : World) : Calls Try.prog 8 #[.agg #[.int .i64 c.k, .int .i64 c.a, .int .i64 c.b, .int .i64 c.n]] w (Gives (.bool true) [] w) := by
  refine enterL (args := [.agg #[.int .i64 c.k, .int .i64 c.a, .int .i64 c.b, .int .i64 c.n]]) Try.func8 rfl rfl (l := []) (Sep.refl _) ?_
  intro a0 H0
  refine wp_seq ?_
  refine reg ?_
  refine st_box rfl rfl rfl rfl rfl rfl H0 ?_
  clear H0; intro b1 a1 w1 H1
  refine plain (y_assign rfl rfl) rfl rfl rfl H1 ?_
  clear H1; intro a2 H2
  refine fin ?_
  refine then_n ?_
  refine wp_seq ?_
  refine reg ?_
  refine plain (y_assign rfl rfl) rfl rfl rfl H2 ?_
  clear H2; intro a3 H3
  refine fin ?_
  refine then_n ?_
  refine wp_seq ?_
  refine reg ?_
  refine st_callg rfl z_call21 rfl rfl rfl rfl H3 (awake _) ?_
  clear H3; intro a4 w4 H4
  refine plain (y_move rfl rfl) rfl rfl rfl H4 ?_
  clear H4; intro a5 H5
  refine plain (y_move rfl rfl) rfl rfl rfl H5 ?_
  clear H5; intro a6 H6
  refine plain (y_fieldB rfl z_field34_1 rfl (by first | (simp only [Nat.zero_add, Nat.add_zero, Nat.reduceAdd]; rfl) | rfl)) rfl rfl rfl H6 ?_
  clear H6; intro a7 H7
  refine plain (y_loadB rfl z_agg3 rfl (by repeat (first | exact List.Mem.head _ | apply List.Mem.tail)) rfl) rfl rfl rfl H7 ?_
  clear H7; intro a8 H8
  refine plain (y_fieldB rfl z_field34_3 rfl (by first | (simp only [Nat.zero_add, Nat.add_zero, Nat.reduceAdd]; rfl) | rfl)) rfl rfl rfl H8 ?_
  clear H8; intro a9 H9
  refine plain (y_loadB rfl z_agg3 rfl (by repeat (first | exact List.Mem.head _ | apply List.Mem.tail)) rfl) rfl rfl rfl H9 ?_
  clear H9; intro a10 H10
  refine st_callg rfl z_call30 rfl rfl rfl rfl H10 (bputN _ _ _) ?_
  clear H10; intro a11 w11 H11
  refine plain (y_eql rfl rfl rfl) rfl rfl rfl H11 ?_
  clear H11; intro a12 H12
  refine plain (y_pick_t rfl rfl rfl) rfl rfl rfl H12 ?_
  clear H12; intro a13 H13
  refine plain (y_move rfl rfl) rfl rfl rfl H13 ?_
  clear H13; intro a14 H14
  have H16 := H14.know (d := 14) (v := .bool true) rfl (by first | rfl | exact congrArg Value.bool (decide_eq_true rfl))
  clear H14
  refine plain (y_move rfl rfl) rfl rfl rfl H16 ?_
  clear H16; intro a17 H17
  refine plain (y_fieldB rfl z_field34_1 rfl (by first | (simp only [Nat.zero_add, Nat.add_zero, Nat.reduceAdd]; rfl) | rfl)) rfl rfl rfl H17 ?_
  clear H17; intro a18 H18
  refine plain (y_loadB rfl z_agg3 rfl (by repeat (first | exact List.Mem.head _ | apply List.Mem.tail)) rfl) rfl rfl rfl H18 ?_
  clear H18; intro a19 H19
  refine plain (y_fieldB rfl z_field34_3 rfl (by first | (simp only [Nat.zero_add, Nat.add_zero, Nat.reduceAdd]; rfl) | rfl)) rfl rfl rfl H19 ?_
  clear H19; intro a20 H20
  refine plain (y_loadB rfl z_agg3 rfl (by repeat (first | exact List.Mem.head _ | apply List.Mem.tail)) rfl) rfl rfl rfl H20 ?_
  clear H20; intro a21 H21
  refine st_callg rfl z_call31 rfl rfl rfl rfl H21 (btakeN _ _ _) ?_
  clear H21; intro a22 w22 H22
  refine plain (y_eql rfl rfl rfl) rfl rfl rfl H22 ?_
  clear H22; intro a23 H23
  refine plain (y_pick_t rfl rfl rfl) rfl rfl rfl H23 ?_
  clear H23; intro a24 H24
  refine plain (y_move rfl rfl) rfl rfl rfl H24 ?_
  clear H24; intro a25 H25
  have H27 := H25.know (d := 23) (v := .bool true) rfl (by first | rfl | exact congrArg Value.bool (decide_eq_true rfl))
  clear H25
  refine plain (y_move rfl rfl) rfl rfl rfl H27 ?_
  clear H27; intro a28 H28
  refine plain (y_fieldB rfl z_field34_1 rfl (by first | (simp only [Nat.zero_add, Nat.add_zero, Nat.reduceAdd]; rfl) | rfl)) rfl rfl rfl H28 ?_
  clear H28; intro a29 H29
  refine plain (y_loadB rfl z_agg3 rfl (by repeat (first | exact List.Mem.head _ | apply List.Mem.tail)) rfl) rfl rfl rfl H29 ?_
  clear H29; intro a30 H30
  refine plain (y_fieldB rfl z_field34_2 rfl (by first | (simp only [Nat.zero_add, Nat.add_zero, Nat.reduceAdd]; rfl) | rfl)) rfl rfl rfl H30 ?_
  clear H30; intro a31 H31
  refine plain (y_loadB rfl z_agg3 rfl (by repeat (first | exact List.Mem.head _ | apply List.Mem.tail)) rfl) rfl rfl rfl H31 ?_
  clear H31; intro a32 H32
  refine plain (y_fieldB rfl z_field34_3 rfl (by first | (simp only [Nat.zero_add, Nat.add_zero, Nat.reduceAdd]; rfl) | rfl)) rfl rfl rfl H32 ?_
  clear H32; intro a33 H33
  refine plain (y_loadB rfl z_agg3 rfl (by repeat (first | exact List.Mem.head _ | apply List.Mem.tail)) rfl) rfl rfl rfl H33 ?_
  clear H33; intro a34 H34
  refine st_callg rfl z_call32 rfl rfl rfl rfl H34 (bmoveN _ _ _ _) ?_
  clear H34; intro a35 w35 H35
  refine plain (y_eql rfl rfl rfl) rfl rfl rfl H35 ?_
  clear H35; intro a36 H36
  refine plain (y_pick_t rfl rfl rfl) rfl rfl rfl H36 ?_
  clear H36; intro a37 H37
  refine plain (y_move rfl rfl) rfl rfl rfl H37 ?_
  clear H37; intro a38 H38
  have H40 := H38.know (d := 34) (v := .bool true) rfl (by first | rfl | exact congrArg Value.bool (decide_eq_true rfl))
  clear H38
  refine plain (y_move rfl rfl) rfl rfl rfl H40 ?_
  clear H40; intro a41 H41
  refine plain (y_fieldB rfl z_field34_1 rfl (by first | (simp only [Nat.zero_add, Nat.add_zero, Nat.reduceAdd]; rfl) | rfl)) rfl rfl rfl H41 ?_
  clear H41; intro a42 H42
  refine plain (y_loadB rfl z_agg3 rfl (by repeat (first | exact List.Mem.head _ | apply List.Mem.tail)) rfl) rfl rfl rfl H42 ?_
  clear H42; intro a43 H43
  refine st_callg rfl z_call28 rfl rfl rfl rfl H43 (bofN _ _) ?_
  clear H43; intro a44 w44 H44
  refine plain (y_move rfl rfl) rfl rfl rfl H44 ?_
  clear H44; intro a45 H45
  refine st_callg rfl z_call29 rfl rfl rfl rfl H45 (btotalN _) ?_
  clear H45; intro a46 w46 H46
  refine plain (y_add rfl rfl rfl (by first | exact w64 (by omega) (by omega) | rfl)) rfl rfl rfl H46 ?_
  clear H46; intro a47 H47
  refine plain (y_move rfl rfl) rfl rfl rfl H47 ?_
  clear H47; intro a48 H48
  refine st_callg rfl z_call27 rfl rfl rfl rfl H48 (ballN _) ?_
  clear H48; intro a49 w49 H49
  refine plain (y_len rfl Try.underlying39 rfl) rfl rfl rfl H49 ?_
  clear H49; intro a50 H50
  refine plain (y_add rfl rfl rfl (by first | exact w64 (by omega) (by omega) | rfl)) rfl rfl rfl H50 ?_
  clear H50; intro a51 H51
  refine plain (y_eql rfl rfl rfl) rfl rfl rfl H51 ?_
  clear H51; intro a52 H52
  refine plain (y_pick_t rfl rfl rfl) rfl rfl rfl H52 ?_
  clear H52; intro a53 H53
  refine plain (y_assign rfl rfl) rfl rfl rfl H53 ?_
  clear H53; intro a54 H54
  refine fin ?_
  refine then_n ?_
  refine wp_ret ?_
  -- return 1
  refine ret1 rfl H54 rfl ?_
  exact ⟨_, [], rfl, ⟨congrArg Value.bool (decide_eq_true rfl), rfl⟩, H54.sep.sub (List.nil_sublist _)⟩

end Go.Proofs.Ytlaojmcpiggfeaa.TBank2
