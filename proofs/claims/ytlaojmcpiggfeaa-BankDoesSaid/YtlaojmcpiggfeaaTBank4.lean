/- Part of a proof about given Go functions: contracts of functions, or plain laws. -/
import Derived.Test.YtlaojmcpiggfeaaSxT
import Derived.Test.YtlaojmcpiggfeaaBankV
import Derived.Test.YtlaojmcpiggfeaaBank2
import Derived.Test.YtlaojmcpiggfeaaProg
import Derived.Test.YtlaojmcpiggfeaaTBank
import Derived.Test.YtlaojmcpiggfeaaTBank2
import Derived.Test.YtlaojmcpiggfeaaTBank3
set_option linter.unusedVariables false
set_option linter.unusedSimpArgs false
namespace Go.Proofs.Ytlaojmcpiggfeaa.TBank4
open Go.Sx Go.RowKit Go.Proofs.Ytlaojmcpiggfeaa.TBank Go.Proofs.Ytlaojmcpiggfeaa.TBank2 Go.Proofs.Ytlaojmcpiggfeaa.TBank3

theorem z_slice39 : sliceB Try.prog 39 = some (3, 1, 8) := by kernel_rfl
theorem z_zval3 : (Try.prog.info? 3).bind (·.zero) = some (.int .i64 0) := by kernel_rfl
theorem z_zero42 : zeroL Try.prog 42 = some ([.slice none 0 0]) := by kernel_rfl
theorem z_places42 : placesB Try.prog 42 = some [(0, 1)] := by kernel_rfl
theorem z_call43 : callB Try.prog 43 = true := by kernel_rfl
theorem z_call44 : callB Try.prog 44 = true := by kernel_rfl
theorem z_field42_0 : fieldB Try.prog 42 0 = some 0 := by kernel_rfl
theorem z_agg39 : aggB Try.prog 39 = some false := by kernel_rfl
theorem z_size3 : sizeB Try.prog 3 = some 1 := by kernel_rfl
theorem z_agg3 : aggB Try.prog 3 = some false := by kernel_rfl

set_option maxRecDepth 100000 in
set_option maxHeartbeats 1000000 in
theorem rwho (n : Int) (w : World) : Calls Try.prog 43 #[.int .i64 n] w (Gives (.bool (decide (0 ≤ n ∧ n < 64))) [] w) := by
  refine enterL (args := [.int .i64 n]) Try.func43 rfl rfl (l := []) (Sep.refl _) ?_
  intro a0 H0
  refine wp_seq ?_
  refine reg ?_
  refine plain (y_assign rfl rfl) rfl rfl rfl H0 ?_
  clear H0; intro a1 H1
  refine fin ?_
  refine then_n ?_
  refine wp_seq ?_
  refine reg ?_
  refine plain (y_move rfl rfl) rfl rfl rfl H1 ?_
  clear H1; intro a2 H2
  refine plain (y_geq rfl rfl rfl) rfl rfl rfl H2 ?_
  clear H2; intro a3 H3
  refine plain (y_move rfl rfl) rfl rfl rfl H3 ?_
  clear H3; intro a4 H4
  refine part_d (d := 5) H4 rfl (fun hg5 => ?_) (fun hg5 => ?_)
  · first
    | fail
    | skip
      clear H4; intro H6
      refine plain (y_move rfl rfl) rfl rfl rfl H6 ?_
      clear H6; intro a7 H7
      refine plain (y_lss rfl rfl rfl) rfl rfl rfl H7 ?_
      clear H7; intro a8 H8
      refine plain (y_pick_t rfl rfl rfl) rfl rfl rfl H8 ?_
      clear H8; intro a9 H9
      refine plain (y_assign rfl rfl) rfl rfl rfl H9 ?_
      clear H9; intro a10 H10
      refine fin ?_
      refine then_n ?_
      refine wp_ret ?_
      -- return 1
      refine ret1 rfl H10 rfl ?_
      exact ⟨_, [], rfl, ⟨by rw [decide_eq_decide.2]; omega, rfl⟩, H10.sep.sub (List.nil_sublist _)⟩
  · first
    | fail
    | skip
      clear H4; intro H11
      refine skip rfl rfl rfl H11 ?_
      clear H11; intro a12 H12
      refine skip rfl rfl rfl H12 ?_
      clear H12; intro a13 H13
      refine plain (y_pick_f rfl rfl rfl) rfl rfl rfl H13 ?_
      clear H13; intro a14 H14
      refine plain (y_assign rfl rfl) rfl rfl rfl H14 ?_
      clear H14; intro a15 H15
      refine fin ?_
      refine then_n ?_
      refine wp_ret ?_
      -- return 2
      refine ret1 rfl H15 rfl ?_
      exact ⟨_, [], rfl, ⟨by rw [decide_eq_false (by omega)], rfl⟩, H15.sep.sub (List.nil_sublist _)⟩
set_option maxRecDepth 100000 in
set_option maxHeartbeats 1000000 in
theorem ramt (n : Int) (w : World) : Calls Try.prog 44 #[.int .i64 n] w (Gives (.bool (decide (0 ≤ n ∧ n ≤ 1099511627776))) [] w) := by
  refine enterL (args := [.int .i64 n]) Try.func44 rfl rfl (l := []) (Sep.refl _) ?_
  intro a0 H0
  refine wp_seq ?_
  refine reg ?_
  refine plain (y_assign rfl rfl) rfl rfl rfl H0 ?_
  clear H0; intro a1 H1
  refine fin ?_
  refine then_n ?_
  refine wp_seq ?_
  refine reg ?_
  refine plain (y_move rfl rfl) rfl rfl rfl H1 ?_
  clear H1; intro a2 H2
  refine plain (y_geq rfl rfl rfl) rfl rfl rfl H2 ?_
  clear H2; intro a3 H3
  refine plain (y_move rfl rfl) rfl rfl rfl H3 ?_
  clear H3; intro a4 H4
  refine part_d (d := 5) H4 rfl (fun hg5 => ?_) (fun hg5 => ?_)
  · first
    | fail
    | skip
      clear H4; intro H6
      refine plain (y_move rfl rfl) rfl rfl rfl H6 ?_
      clear H6; intro a7 H7
      refine plain (y_leq rfl rfl rfl) rfl rfl rfl H7 ?_
      clear H7; intro a8 H8
      refine plain (y_pick_t rfl rfl rfl) rfl rfl rfl H8 ?_
      clear H8; intro a9 H9
      refine plain (y_assign rfl rfl) rfl rfl rfl H9 ?_
      clear H9; intro a10 H10
      refine fin ?_
      refine then_n ?_
      refine wp_ret ?_
      -- return 1
      refine ret1 rfl H10 rfl ?_
      exact ⟨_, [], rfl, ⟨by rw [decide_eq_decide.2]; omega, rfl⟩, H10.sep.sub (List.nil_sublist _)⟩
  · first
    | fail
    | skip
      clear H4; intro H11
      refine skip rfl rfl rfl H11 ?_
      clear H11; intro a12 H12
      refine skip rfl rfl rfl H12 ?_
      clear H12; intro a13 H13
      refine plain (y_pick_f rfl rfl rfl) rfl rfl rfl H13 ?_
      clear H13; intro a14 H14
      refine plain (y_assign rfl rfl) rfl rfl rfl H14 ?_
      clear H14; intro a15 H15
      refine fin ?_
      refine then_n ?_
      refine wp_ret ?_
      -- return 2
      refine ret1 rfl H15 rfl ?_
      exact ⟨_, [], rfl, ⟨by rw [decide_eq_false (by omega)], rfl⟩, H15.sep.sub (List.nil_sublist _)⟩
set_option maxRecDepth 100000 in
set_option maxHeartbeats 1000000 in
theorem rnew (w : World) : Calls Try.prog 20 #[] w (Post [] w (fun u l => ∃ bx g, u = .pointer (some ⟨bx, 0, none⟩) ∧ l = [It.blk bx 42 [.slice (some ⟨g, 0, none⟩) 64 64], It.blk g 3 ((List.replicate 64 (0 : Int)).map i64)])) := by
  refine enterL (args := []) Try.func20 rfl rfl (l := []) (Sep.refl _) ?_
  intro a0 H0
  refine wp_seq ?_
  refine reg ?_
  refine plain (y_assign rfl rfl) rfl rfl rfl H0 ?_
  clear H0; intro a1 H1
  refine fin ?_
  refine then_n ?_
  refine wp_seq ?_
  refine reg ?_
  refine st_make rfl z_slice39 rfl rfl (by decide) (by decide) z_zval3 rfl rfl rfl H1 ?_
  clear H1; intro b2 a2 w2 H2
  refine plain (y_build rfl z_zero42 z_places42 rfl rfl) rfl rfl rfl H2 ?_
  clear H2; intro a3 H3
  refine st_box rfl rfl rfl rfl rfl rfl H3 ?_
  clear H3; intro b4 a4 w4 H4
  refine plain (y_assign rfl rfl) rfl rfl rfl H4 ?_
  clear H4; intro a5 H5
  refine fin ?_
  refine then_n ?_
  refine wp_ret ?_
  -- return 1
  refine ret1 rfl H5 rfl ?_
  exact ⟨_, _, rfl, ⟨b4, b2, rfl, by rw [made_i64]; rfl⟩, H5.sep⟩
set_option maxRecDepth 100000 in
set_option maxHeartbeats 2000000 in
theorem rput (bx g : Nat) (hne : bx ≠ g) (L : List Int) (hL : Bank.Ok L) (who amt : Int) {w : World} (hx : (It.blk bx 42 [.slice (some ⟨g, 0, none⟩) 64 64]).P w) (hp : (It.blk g 3 (L.map i64)).P w) : Calls Try.prog 22 #[.pointer (some ⟨bx, 0, none⟩), .int .i64 who, .int .i64 amt] w (Turns (.int .i64 (Bank.put L who amt).1) (It.blk g 3 (L.map i64)) (It.blk g 3 ((Bank.put L who amt).2.map i64)) w) := by
  have hlen := hL.len
  refine enterL (args := [.pointer (some ⟨bx, 0, none⟩), .int .i64 who, .int .i64 amt]) Try.func22 rfl rfl (l := [It.blk g 3 (L.map i64)]) (Sep.one hp) ?_
  intro a0 H0
  refine wp_seq ?_
  refine reg ?_
  refine plain (y_assign rfl rfl) rfl rfl rfl H0 ?_
  clear H0; intro a1 H1
  refine fin ?_
  refine then_n ?_
  refine wp_seq ?_
  refine wp_seq ?_
  refine reg ?_
  refine plain (y_move rfl rfl) rfl rfl rfl H1 ?_
  clear H1; intro a2 H2
  refine st_callg rfl z_call43 rfl rfl rfl rfl H2 (rwho _ _) ?_
  clear H2; intro a3 w3 H3
  refine plain (y_not_d rfl rfl) rfl rfl rfl H3 ?_
  clear H3; intro a4 H4
  refine fin ?_
  refine then_n ?_
  refine cnd_d H4 rfl (fun hc5 => ?_) (fun hc5 => ?_) -- cond 1
  · skip
    refine wp_seq ?_
    refine reg ?_
    refine plain (y_assign rfl rfl) rfl rfl rfl H4 ?_
    clear H4; intro a6 H6
    refine fin ?_
    refine then_n ?_
    refine wp_ret ?_
    refine then_r ?_
    -- return 1
    refine ret1 rfl H6 rfl ?_
    rw [Bank.put_20 (by omega)]; exact Turns.ret H6.sep
  · skip
    refine wp_skip ?_
    refine then_n ?_
    refine wp_seq ?_
    refine wp_seq ?_
    refine reg ?_
    refine plain (y_move rfl rfl) rfl rfl rfl H4 ?_
    clear H4; intro a7 H7
    refine st_callg rfl z_call44 rfl rfl rfl rfl H7 (ramt _ _) ?_
    clear H7; intro a8 w8 H8
    refine plain (y_not_d rfl rfl) rfl rfl rfl H8 ?_
    clear H8; intro a9 H9
    refine fin ?_
    refine then_n ?_
    refine cnd_d H9 rfl (fun hc10 => ?_) (fun hc10 => ?_) -- cond 2
    · skip
      refine wp_seq ?_
      refine reg ?_
      refine plain (y_assign rfl rfl) rfl rfl rfl H9 ?_
      clear H9; intro a11 H11
      refine fin ?_
      refine then_n ?_
      refine wp_ret ?_
      refine then_r ?_
      -- return 2
      refine ret1 rfl H11 rfl ?_
      rw [Bank.put_2 (by omega) (by omega)]; exact Turns.ret H11.sep
    · skip
      have hkk := hL.all who.toNat
      refine wp_skip ?_
      refine then_n ?_
      refine wp_seq ?_
      refine wp_seq ?_
      refine reg ?_
      refine plain (y_move rfl rfl) rfl rfl rfl H9 ?_
      clear H9; intro a12 H12
      refine plain (y_nilCheck rfl rfl) rfl rfl rfl H12 ?_
      clear H12; intro a13 H13
      refine plain (y_fieldB rfl z_field42_0 rfl (by first | (simp only [Nat.zero_add, Nat.add_zero, Nat.reduceAdd]; rfl) | rfl)) rfl rfl rfl H13 ?_
      clear H13; intro a14 H14
      refine plain (y_loadO rfl z_agg39 rfl (blk_cell hx rfl) (fun hmem => hne (List.mem_singleton.1 hmem))) rfl rfl rfl H14 ?_
      clear H14; intro a15 H15
      refine plain (y_move rfl rfl) rfl rfl rfl H15 ?_
      clear H15; intro a16 H16
      refine plain (y_ixL rfl Try.underlying39 z_size3 rfl rfl (by omega) (by omega) rfl) rfl rfl rfl H16 ?_
      clear H16; intro a17 H17
      refine plain (y_loadB rfl z_agg3 rfl (by repeat (first | exact List.Mem.head _ | apply List.Mem.tail)) (i64_getI _ _ (by omega) (by omega))) rfl rfl rfl H17 ?_
      clear H17; intro a18 H18
      refine plain (y_move rfl rfl) rfl rfl rfl H18 ?_
      clear H18; intro a19 H19
      refine plain (y_add rfl rfl rfl (by first | exact w64 (by omega) (by omega) | rfl)) rfl rfl rfl H19 ?_
      clear H19; intro a20 H20
      refine plain (y_gtr rfl rfl rfl) rfl rfl rfl H20 ?_
      clear H20; intro a21 H21
      refine fin ?_
      refine then_n ?_
      refine cnd_d H21 rfl (fun hc22 => ?_) (fun hc22 => ?_) -- cond 3
      · skip
        refine wp_seq ?_
        refine reg ?_
        refine plain (y_assign rfl rfl) rfl rfl rfl H21 ?_
        clear H21; intro a23 H23
        refine fin ?_
        refine then_n ?_
        refine wp_ret ?_
        refine then_r ?_
        -- return 3
        refine ret1 rfl H23 rfl ?_
        rw [Bank.put_big (Bank.wrong1_ok (by omega) (by omega)) (by omega)]; exact Turns.ret H23.sep
      · skip
        refine wp_skip ?_
        refine then_n ?_
        refine wp_seq ?_
        refine treg 15 (by kernel_rfl) (by kernel_rfl) H21 ?_
        clear H21; intro w24 H24
        refine tplain (y_move rfl rfl) rfl rfl rfl H24 ?_
        clear H24; intro a25 H25
        refine tplain (y_nilCheck rfl rfl) rfl rfl rfl H25 ?_
        clear H25; intro a26 H26
        refine tplain (y_fieldB rfl z_field42_0 rfl (by first | (simp only [Nat.zero_add, Nat.add_zero, Nat.reduceAdd]; rfl) | rfl)) rfl rfl rfl H26 ?_
        clear H26; intro a27 H27
        refine tplain (y_loadO rfl z_agg39 rfl (blk_cell hx rfl) (fun hmem => hne (List.mem_singleton.1 hmem))) rfl rfl rfl H27 ?_
        clear H27; intro a28 H28
        refine tplain (y_move rfl rfl) rfl rfl rfl H28 ?_
        clear H28; intro a29 H29
        refine tplain (y_move rfl rfl) rfl rfl rfl H29 ?_
        clear H29; intro a30 H30
        refine tplain (y_nilCheck rfl rfl) rfl rfl rfl H30 ?_
        clear H30; intro a31 H31
        refine tplain (y_fieldB rfl z_field42_0 rfl (by first | (simp only [Nat.zero_add, Nat.add_zero, Nat.reduceAdd]; rfl) | rfl)) rfl rfl rfl H31 ?_
        clear H31; intro a32 H32
        refine tplain (y_loadO rfl z_agg39 rfl (blk_cell hx rfl) (fun hmem => hne (List.mem_singleton.1 hmem))) rfl rfl rfl H32 ?_
        clear H32; intro a33 H33
        refine tplain (y_move rfl rfl) rfl rfl rfl H33 ?_
        clear H33; intro a34 H34
        refine tplain (y_ixL rfl Try.underlying39 z_size3 rfl rfl (by omega) (by omega) rfl) rfl rfl rfl H34 ?_
        clear H34; intro a35 H35
        refine tplain (y_loadB rfl z_agg3 rfl (by repeat (first | exact List.Mem.head _ | apply List.Mem.tail)) (i64_getI _ _ (by omega) (by omega))) rfl rfl rfl H35 ?_
        clear H35; intro a36 H36
        refine tplain (y_move rfl rfl) rfl rfl rfl H36 ?_
        clear H36; intro a37 H37
        refine tplain (y_add rfl rfl rfl (by first | exact w64 (by omega) (by omega) | rfl)) rfl rfl rfl H37 ?_
        clear H37; intro a38 H38
        refine tplain (y_ixL rfl Try.underlying39 z_size3 rfl rfl (by omega) (by omega) rfl) rfl rfl rfl H38 ?_
        clear H38; intro a39 H39
        refine tfin ?_
        refine st_store1 rfl z_size3 rfl rfl rfl (by repeat (first | exact Upd.head _ _ _ | apply Upd.tail)) (by first | decide | (simp; omega)) rfl rfl H39 ?_
        clear H39; intro w40 H40
        refine fin ?_
        refine then_n ?_
        refine wp_seq ?_
        refine reg ?_
        refine plain (y_assign rfl rfl) rfl rfl rfl H40 ?_
        clear H40; intro a41 H41
        refine fin ?_
        refine then_n ?_
        refine wp_ret ?_
        -- return 4
        refine ret1 rfl H41 rfl ?_
        rw [Bank.put_ok (Bank.wrong1_ok (by omega) (by omega)) (by omega), ← i64_set]; exact Turns.ret H41.sep
set_option maxRecDepth 100000 in
set_option maxHeartbeats 2000000 in
theorem rtake (bx g : Nat) (hne : bx ≠ g) (L : List Int) (hL : Bank.Ok L) (who amt : Int) {w : World} (hx : (It.blk bx 42 [.slice (some ⟨g, 0, none⟩) 64 64]).P w) (hp : (It.blk g 3 (L.map i64)).P w) : Calls Try.prog 23 #[.pointer (some ⟨bx, 0, none⟩), .int .i64 who, .int .i64 amt] w (Turns (.int .i64 (Bank.take L who amt).1) (It.blk g 3 (L.map i64)) (It.blk g 3 ((Bank.take L who amt).2.map i64)) w) := by
  have hlen := hL.len
  refine enterL (args := [.pointer (some ⟨bx, 0, none⟩), .int .i64 who, .int .i64 amt]) Try.func23 rfl rfl (l := [It.blk g 3 (L.map i64)]) (Sep.one hp) ?_
  intro a0 H0
  refine wp_seq ?_
  refine reg ?_
  refine plain (y_assign rfl rfl) rfl rfl rfl H0 ?_
  clear H0; intro a1 H1
  refine fin ?_
  refine then_n ?_
  refine wp_seq ?_
  refine wp_seq ?_
  refine reg ?_
  refine plain (y_move rfl rfl) rfl rfl rfl H1 ?_
  clear H1; intro a2 H2
  refine st_callg rfl z_call43 rfl rfl rfl rfl H2 (rwho _ _) ?_
  clear H2; intro a3 w3 H3
  refine plain (y_not_d rfl rfl) rfl rfl rfl H3 ?_
  clear H3; intro a4 H4
  refine fin ?_
  refine then_n ?_
  refine cnd_d H4 rfl (fun hc5 => ?_) (fun hc5 => ?_) -- cond 1
  · skip
    refine wp_seq ?_
    refine reg ?_
    refine plain (y_assign rfl rfl) rfl rfl rfl H4 ?_
    clear H4; intro a6 H6
    refine fin ?_
    refine then_n ?_
    refine wp_ret ?_
    refine then_r ?_
    -- return 1
    refine ret1 rfl H6 rfl ?_
    rw [Bank.take_20 (by omega)]; exact Turns.ret H6.sep
  · skip
    refine wp_skip ?_
    refine then_n ?_
    refine wp_seq ?_
    refine wp_seq ?_
    refine reg ?_
    refine plain (y_move rfl rfl) rfl rfl rfl H4 ?_
    clear H4; intro a7 H7
    refine st_callg rfl z_call44 rfl rfl rfl rfl H7 (ramt _ _) ?_
    clear H7; intro a8 w8 H8
    refine plain (y_not_d rfl rfl) rfl rfl rfl H8 ?_
    clear H8; intro a9 H9
    refine fin ?_
    refine then_n ?_
    refine cnd_d H9 rfl (fun hc10 => ?_) (fun hc10 => ?_) -- cond 2
    · skip
      refine wp_seq ?_
      refine reg ?_
      refine plain (y_assign rfl rfl) rfl rfl rfl H9 ?_
      clear H9; intro a11 H11
      refine fin ?_
      refine then_n ?_
      refine wp_ret ?_
      refine then_r ?_
      -- return 2
      refine ret1 rfl H11 rfl ?_
      rw [Bank.take_2 (by omega) (by omega)]; exact Turns.ret H11.sep
    · skip
      have hkk := hL.all who.toNat
      refine wp_skip ?_
      refine then_n ?_
      refine wp_seq ?_
      refine wp_seq ?_
      refine reg ?_
      refine plain (y_move rfl rfl) rfl rfl rfl H9 ?_
      clear H9; intro a12 H12
      refine plain (y_nilCheck rfl rfl) rfl rfl rfl H12 ?_
      clear H12; intro a13 H13
      refine plain (y_fieldB rfl z_field42_0 rfl (by first | (simp only [Nat.zero_add, Nat.add_zero, Nat.reduceAdd]; rfl) | rfl)) rfl rfl rfl H13 ?_
      clear H13; intro a14 H14
      refine plain (y_loadO rfl z_agg39 rfl (blk_cell hx rfl) (fun hmem => hne (List.mem_singleton.1 hmem))) rfl rfl rfl H14 ?_
      clear H14; intro a15 H15
      refine plain (y_move rfl rfl) rfl rfl rfl H15 ?_
      clear H15; intro a16 H16
      refine plain (y_ixL rfl Try.underlying39 z_size3 rfl rfl (by omega) (by omega) rfl) rfl rfl rfl H16 ?_
      clear H16; intro a17 H17
      refine plain (y_loadB rfl z_agg3 rfl (by repeat (first | exact List.Mem.head _ | apply List.Mem.tail)) (i64_getI _ _ (by omega) (by omega))) rfl rfl rfl H17 ?_
      clear H17; intro a18 H18
      refine plain (y_move rfl rfl) rfl rfl rfl H18 ?_
      clear H18; intro a19 H19
      refine plain (y_lss rfl rfl rfl) rfl rfl rfl H19 ?_
      clear H19; intro a20 H20
      refine fin ?_
      refine then_n ?_
      refine cnd_d H20 rfl (fun hc21 => ?_) (fun hc21 => ?_) -- cond 3
      · skip
        refine wp_seq ?_
        refine reg ?_
        refine plain (y_assign rfl rfl) rfl rfl rfl H20 ?_
        clear H20; intro a22 H22
        refine fin ?_
        refine then_n ?_
        refine wp_ret ?_
        refine then_r ?_
        -- return 3
        refine ret1 rfl H22 rfl ?_
        rw [Bank.take_few (Bank.wrong1_ok (by omega) (by omega)) (by omega)]; exact Turns.ret H22.sep
      · skip
        refine wp_skip ?_
        refine then_n ?_
        refine wp_seq ?_
        refine treg 15 (by kernel_rfl) (by kernel_rfl) H20 ?_
        clear H20; intro w23 H23
        refine tplain (y_move rfl rfl) rfl rfl rfl H23 ?_
        clear H23; intro a24 H24
        refine tplain (y_nilCheck rfl rfl) rfl rfl rfl H24 ?_
        clear H24; intro a25 H25
        refine tplain (y_fieldB rfl z_field42_0 rfl (by first | (simp only [Nat.zero_add, Nat.add_zero, Nat.reduceAdd]; rfl) | rfl)) rfl rfl rfl H25 ?_
        clear H25; intro a26 H26
        refine tplain (y_loadO rfl z_agg39 rfl (blk_cell hx rfl) (fun hmem => hne (List.mem_singleton.1 hmem))) rfl rfl rfl H26 ?_
        clear H26; intro a27 H27
        refine tplain (y_move rfl rfl) rfl rfl rfl H27 ?_
        clear H27; intro a28 H28
        refine tplain (y_move rfl rfl) rfl rfl rfl H28 ?_
        clear H28; intro a29 H29
        refine tplain (y_nilCheck rfl rfl) rfl rfl rfl H29 ?_
        clear H29; intro a30 H30
        refine tplain (y_fieldB rfl z_field42_0 rfl (by first | (simp only [Nat.zero_add, Nat.add_zero, Nat.reduceAdd]; rfl) | rfl)) rfl rfl rfl H30 ?_
        clear H30; intro a31 H31
        refine tplain (y_loadO rfl z_agg39 rfl (blk_cell hx rfl) (fun hmem => hne (List.mem_singleton.1 hmem))) rfl rfl rfl H31 ?_
        clear H31; intro a32 H32
        refine tplain (y_move rfl rfl) rfl rfl rfl H32 ?_
        clear H32; intro a33 H33
        refine tplain (y_ixL rfl Try.underlying39 z_size3 rfl rfl (by omega) (by omega) rfl) rfl rfl rfl H33 ?_
        clear H33; intro a34 H34
        refine tplain (y_loadB rfl z_agg3 rfl (by repeat (first | exact List.Mem.head _ | apply List.Mem.tail)) (i64_getI _ _ (by omega) (by omega))) rfl rfl rfl H34 ?_
        clear H34; intro a35 H35
        refine tplain (y_move rfl rfl) rfl rfl rfl H35 ?_
        clear H35; intro a36 H36
        refine tplain (y_sub rfl rfl rfl (by first | exact w64 (by omega) (by omega) | rfl)) rfl rfl rfl H36 ?_
        clear H36; intro a37 H37
        refine tplain (y_ixL rfl Try.underlying39 z_size3 rfl rfl (by omega) (by omega) rfl) rfl rfl rfl H37 ?_
        clear H37; intro a38 H38
        refine tfin ?_
        refine st_store1 rfl z_size3 rfl rfl rfl (by repeat (first | exact Upd.head _ _ _ | apply Upd.tail)) (by first | decide | (simp; omega)) rfl rfl H38 ?_
        clear H38; intro w39 H39
        refine fin ?_
        refine then_n ?_
        refine wp_seq ?_
        refine reg ?_
        refine plain (y_assign rfl rfl) rfl rfl rfl H39 ?_
        clear H39; intro a40 H40
        refine fin ?_
        refine then_n ?_
        refine wp_ret ?_
        -- return 4
        refine ret1 rfl H40 rfl ?_
        rw [Bank.take_ok (Bank.wrong1_ok (by omega) (by omega)) (by omega), ← i64_set]; exact Turns.ret H40.sep
set_option maxRecDepth 100000 in
set_option maxHeartbeats 2000000 in
theorem rmove (bx g : Nat) (hne : bx ≠ g) (L : List Int) (hL : Bank.Ok L) (f t amt : Int) {w : World} (hx : (It.blk bx 42 [.slice (some ⟨g, 0, none⟩) 64 64]).P w) (hp : (It.blk g 3 (L.map i64)).P w) : Calls Try.prog 24 #[.pointer (some ⟨bx, 0, none⟩), .int .i64 f, .int .i64 t, .int .i64 amt] w (Turns (.int .i64 (Bank.move L f t amt).1) (It.blk g 3 (L.map i64)) (It.blk g 3 ((Bank.move L f t amt).2.map i64)) w) := by
  have hlen := hL.len
  refine enterL (args := [.pointer (some ⟨bx, 0, none⟩), .int .i64 f, .int .i64 t, .int .i64 amt]) Try.func24 rfl rfl (l := [It.blk g 3 (L.map i64)]) (Sep.one hp) ?_
  intro a0 H0
  refine wp_seq ?_
  refine reg ?_
  refine plain (y_assign rfl rfl) rfl rfl rfl H0 ?_
  clear H0; intro a1 H1
  refine fin ?_
  refine then_n ?_
  refine wp_seq ?_
  refine wp_seq ?_
  refine reg ?_
  refine plain (y_move rfl rfl) rfl rfl rfl H1 ?_
  clear H1; intro a2 H2
  refine st_callg rfl z_call43 rfl rfl rfl rfl H2 (rwho _ _) ?_
  clear H2; intro a3 w3 H3
  refine plain (y_not_d rfl rfl) rfl rfl rfl H3 ?_
  clear H3; intro a4 H4
  refine plain (y_move rfl rfl) rfl rfl rfl H4 ?_
  clear H4; intro a5 H5
  refine part_d (d := 12) H5 rfl (fun hg6 => ?_) (fun hg6 => ?_)
  · first
    | fail
    | skip
      clear H5; intro H7
      refine skip rfl rfl rfl H7 ?_
      clear H7; intro a8 H8
      refine skip rfl rfl rfl H8 ?_
      clear H8; intro a9 H9
      refine skip rfl rfl rfl H9 ?_
      clear H9; intro a10 H10
      refine plain (y_pick_t rfl rfl rfl) rfl rfl rfl H10 ?_
      clear H10; intro a11 H11
      refine fin ?_
      refine then_n ?_
      refine cnd_t H11 rfl ?_
      refine wp_seq ?_
      refine reg ?_
      refine plain (y_assign rfl rfl) rfl rfl rfl H11 ?_
      clear H11; intro a13 H13
      refine fin ?_
      refine then_n ?_
      refine wp_ret ?_
      refine then_r ?_
      -- return 1
      refine ret1 rfl H13 rfl ?_
      rw [Bank.move_20 (by omega)]; exact Turns.ret H13.sep
  · first
    | fail
    | skip
      clear H5; intro H14
      refine plain (y_move rfl rfl) rfl rfl rfl H14 ?_
      clear H14; intro a15 H15
      refine st_callg rfl z_call43 rfl rfl rfl rfl H15 (rwho _ _) ?_
      clear H15; intro a16 w16 H16
      refine plain (y_not_d rfl rfl) rfl rfl rfl H16 ?_
      clear H16; intro a17 H17
      refine plain (y_pick_f rfl rfl rfl) rfl rfl rfl H17 ?_
      clear H17; intro a18 H18
      refine fin ?_
      refine then_n ?_
      refine cnd_d H18 rfl (fun hc19 => ?_) (fun hc19 => ?_) -- cond 2
      · skip
        refine wp_seq ?_
        refine reg ?_
        refine plain (y_assign rfl rfl) rfl rfl rfl H18 ?_
        clear H18; intro a20 H20
        refine fin ?_
        refine then_n ?_
        refine wp_ret ?_
        refine then_r ?_
        -- return 2
        refine ret1 rfl H20 rfl ?_
        rw [Bank.move_20 (by omega)]; exact Turns.ret H20.sep
      · skip
        refine wp_skip ?_
        refine then_n ?_
        refine wp_seq ?_
        refine wp_seq ?_
        refine reg ?_
        refine plain (y_move rfl rfl) rfl rfl rfl H18 ?_
        clear H18; intro a21 H21
        refine st_callg rfl z_call44 rfl rfl rfl rfl H21 (ramt _ _) ?_
        clear H21; intro a22 w22 H22
        refine plain (y_not_d rfl rfl) rfl rfl rfl H22 ?_
        clear H22; intro a23 H23
        refine fin ?_
        refine then_n ?_
        refine cnd_d H23 rfl (fun hc24 => ?_) (fun hc24 => ?_) -- cond 3
        · skip
          refine wp_seq ?_
          refine reg ?_
          refine plain (y_assign rfl rfl) rfl rfl rfl H23 ?_
          clear H23; intro a25 H25
          refine fin ?_
          refine then_n ?_
          refine wp_ret ?_
          refine then_r ?_
          -- return 3
          refine ret1 rfl H25 rfl ?_
          rw [Bank.move_2 (by omega) (by omega) (by omega)]; exact Turns.ret H25.sep
        · skip
          have hkf := hL.all f.toNat
          have hkt := hL.all t.toNat
          have hw0 : Bank.wrong false amt [f, t] = 0 := Bank.wrong2_ok (by omega) (by omega) (by omega)
          refine wp_skip ?_
          refine then_n ?_
          refine wp_seq ?_
          refine wp_seq ?_
          refine reg ?_
          refine plain (y_move rfl rfl) rfl rfl rfl H23 ?_
          clear H23; intro a26 H26
          refine plain (y_nilCheck rfl rfl) rfl rfl rfl H26 ?_
          clear H26; intro a27 H27
          refine plain (y_fieldB rfl z_field42_0 rfl (by first | (simp only [Nat.zero_add, Nat.add_zero, Nat.reduceAdd]; rfl) | rfl)) rfl rfl rfl H27 ?_
          clear H27; intro a28 H28
          refine plain (y_loadO rfl z_agg39 rfl (blk_cell hx rfl) (fun hmem => hne (List.mem_singleton.1 hmem))) rfl rfl rfl H28 ?_
          clear H28; intro a29 H29
          refine plain (y_move rfl rfl) rfl rfl rfl H29 ?_
          clear H29; intro a30 H30
          refine plain (y_ixL rfl Try.underlying39 z_size3 rfl rfl (by omega) (by omega) rfl) rfl rfl rfl H30 ?_
          clear H30; intro a31 H31
          refine plain (y_loadB rfl z_agg3 rfl (by repeat (first | exact List.Mem.head _ | apply List.Mem.tail)) (i64_getI _ _ (by omega) (by omega))) rfl rfl rfl H31 ?_
          clear H31; intro a32 H32
          refine plain (y_move rfl rfl) rfl rfl rfl H32 ?_
          clear H32; intro a33 H33
          refine plain (y_lss rfl rfl rfl) rfl rfl rfl H33 ?_
          clear H33; intro a34 H34
          refine fin ?_
          refine then_n ?_
          refine cnd_d H34 rfl (fun hc35 => ?_) (fun hc35 => ?_) -- cond 4
          · skip
            refine wp_seq ?_
            refine reg ?_
            refine plain (y_assign rfl rfl) rfl rfl rfl H34 ?_
            clear H34; intro a36 H36
            refine fin ?_
            refine then_n ?_
            refine wp_ret ?_
            refine then_r ?_
            -- return 4
            refine ret1 rfl H36 rfl ?_
            rw [Bank.move_few hw0 (by omega)]; exact Turns.ret H36.sep
          · skip
            refine wp_skip ?_
            refine then_n ?_
            refine wp_seq ?_
            refine wp_seq ?_
            refine reg ?_
            refine plain (y_move rfl rfl) rfl rfl rfl H34 ?_
            clear H34; intro a37 H37
            refine plain (y_move rfl rfl) rfl rfl rfl H37 ?_
            clear H37; intro a38 H38
            refine plain (y_eql rfl rfl rfl) rfl rfl rfl H38 ?_
            clear H38; intro a39 H39
            refine fin ?_
            refine then_n ?_
            refine cnd_d H39 rfl (fun hc40 => ?_) (fun hc40 => ?_) -- cond 5
            · skip
              refine wp_seq ?_
              refine reg ?_
              refine plain (y_assign rfl rfl) rfl rfl rfl H39 ?_
              clear H39; intro a41 H41
              refine fin ?_
              refine then_n ?_
              refine wp_ret ?_
              refine then_r ?_
              -- return 5
              refine ret1 rfl H41 rfl ?_
              rw [Bank.move_self hL (by omega) (by omega) (by omega) (by omega)]; exact Turns.ret H41.sep
            · skip
              refine wp_skip ?_
              refine then_n ?_
              refine wp_seq ?_
              refine wp_seq ?_
              refine reg ?_
              refine plain (y_move rfl rfl) rfl rfl rfl H39 ?_
              clear H39; intro a42 H42
              refine plain (y_nilCheck rfl rfl) rfl rfl rfl H42 ?_
              clear H42; intro a43 H43
              refine plain (y_fieldB rfl z_field42_0 rfl (by first | (simp only [Nat.zero_add, Nat.add_zero, Nat.reduceAdd]; rfl) | rfl)) rfl rfl rfl H43 ?_
              clear H43; intro a44 H44
              refine plain (y_loadO rfl z_agg39 rfl (blk_cell hx rfl) (fun hmem => hne (List.mem_singleton.1 hmem))) rfl rfl rfl H44 ?_
              clear H44; intro a45 H45
              refine plain (y_move rfl rfl) rfl rfl rfl H45 ?_
              clear H45; intro a46 H46
              refine plain (y_ixL rfl Try.underlying39 z_size3 rfl rfl (by omega) (by omega) rfl) rfl rfl rfl H46 ?_
              clear H46; intro a47 H47
              refine plain (y_loadB rfl z_agg3 rfl (by repeat (first | exact List.Mem.head _ | apply List.Mem.tail)) (i64_getI _ _ (by omega) (by omega))) rfl rfl rfl H47 ?_
              clear H47; intro a48 H48
              refine plain (y_move rfl rfl) rfl rfl rfl H48 ?_
              clear H48; intro a49 H49
              refine plain (y_add rfl rfl rfl (by first | exact w64 (by omega) (by omega) | rfl)) rfl rfl rfl H49 ?_
              clear H49; intro a50 H50
              refine plain (y_gtr rfl rfl rfl) rfl rfl rfl H50 ?_
              clear H50; intro a51 H51
              refine fin ?_
              refine then_n ?_
              refine cnd_d H51 rfl (fun hc52 => ?_) (fun hc52 => ?_) -- cond 6
              · skip
                refine wp_seq ?_
                refine reg ?_
                refine plain (y_assign rfl rfl) rfl rfl rfl H51 ?_
                clear H51; intro a53 H53
                refine fin ?_
                refine then_n ?_
                refine wp_ret ?_
                refine then_r ?_
                -- return 6
                refine ret1 rfl H53 rfl ?_
                rw [Bank.move_big hw0 (by omega) (by omega) (by omega)]; exact Turns.ret H53.sep
              · skip
                have hmm := Bank.move_mid hL hw0 (by omega) (by omega)
                have hlen2 : (L.set f.toNat (L.getD f.toNat 0 - amt)).length = 64 := by simp [hlen]
                refine wp_skip ?_
                refine then_n ?_
                refine wp_seq ?_
                refine treg 15 (by kernel_rfl) (by kernel_rfl) H51 ?_
                clear H51; intro w54 H54
                refine tplain (y_move rfl rfl) rfl rfl rfl H54 ?_
                clear H54; intro a55 H55
                refine tplain (y_nilCheck rfl rfl) rfl rfl rfl H55 ?_
                clear H55; intro a56 H56
                refine tplain (y_fieldB rfl z_field42_0 rfl (by first | (simp only [Nat.zero_add, Nat.add_zero, Nat.reduceAdd]; rfl) | rfl)) rfl rfl rfl H56 ?_
                clear H56; intro a57 H57
                refine tplain (y_loadO rfl z_agg39 rfl (blk_cell hx rfl) (fun hmem => hne (List.mem_singleton.1 hmem))) rfl rfl rfl H57 ?_
                clear H57; intro a58 H58
                refine tplain (y_move rfl rfl) rfl rfl rfl H58 ?_
                clear H58; intro a59 H59
                refine tplain (y_move rfl rfl) rfl rfl rfl H59 ?_
                clear H59; intro a60 H60
                refine tplain (y_nilCheck rfl rfl) rfl rfl rfl H60 ?_
                clear H60; intro a61 H61
                refine tplain (y_fieldB rfl z_field42_0 rfl (by first | (simp only [Nat.zero_add, Nat.add_zero, Nat.reduceAdd]; rfl) | rfl)) rfl rfl rfl H61 ?_
                clear H61; intro a62 H62
                refine tplain (y_loadO rfl z_agg39 rfl (blk_cell hx rfl) (fun hmem => hne (List.mem_singleton.1 hmem))) rfl rfl rfl H62 ?_
                clear H62; intro a63 H63
                refine tplain (y_move rfl rfl) rfl rfl rfl H63 ?_
                clear H63; intro a64 H64
                refine tplain (y_ixL rfl Try.underlying39 z_size3 rfl rfl (by omega) (by omega) rfl) rfl rfl rfl H64 ?_
                clear H64; intro a65 H65
                refine tplain (y_loadB rfl z_agg3 rfl (by repeat (first | exact List.Mem.head _ | apply List.Mem.tail)) (i64_getI _ _ (by omega) (by omega))) rfl rfl rfl H65 ?_
                clear H65; intro a66 H66
                refine tplain (y_move rfl rfl) rfl rfl rfl H66 ?_
                clear H66; intro a67 H67
                refine tplain (y_sub rfl rfl rfl (by first | exact w64 (by omega) (by omega) | rfl)) rfl rfl rfl H67 ?_
                clear H67; intro a68 H68
                refine tplain (y_ixL rfl Try.underlying39 z_size3 rfl rfl (by omega) (by omega) rfl) rfl rfl rfl H68 ?_
                clear H68; intro a69 H69
                refine tfin ?_
                refine st_store1 rfl z_size3 rfl rfl rfl (by repeat (first | exact Upd.head _ _ _ | apply Upd.tail)) (by first | decide | (simp; omega)) rfl rfl H69 ?_
                clear H69; intro w70 H70
                refine fin ?_
                refine then_n ?_
                refine wp_seq ?_
                refine treg 15 (by kernel_rfl) (by kernel_rfl) H70 ?_
                clear H70; intro w71 H71
                refine tplain (y_move rfl rfl) rfl rfl rfl H71 ?_
                clear H71; intro a72 H72
                refine tplain (y_nilCheck rfl rfl) rfl rfl rfl H72 ?_
                clear H72; intro a73 H73
                refine tplain (y_fieldB rfl z_field42_0 rfl (by first | (simp only [Nat.zero_add, Nat.add_zero, Nat.reduceAdd]; rfl) | rfl)) rfl rfl rfl H73 ?_
                clear H73; intro a74 H74
                refine tplain (y_loadO rfl z_agg39 rfl (blk_cell hx rfl) (fun hmem => hne (List.mem_singleton.1 hmem))) rfl rfl rfl H74 ?_
                clear H74; intro a75 H75
                refine tplain (y_move rfl rfl) rfl rfl rfl H75 ?_
                clear H75; intro a76 H76
                refine tplain (y_move rfl rfl) rfl rfl rfl H76 ?_
                clear H76; intro a77 H77
                refine tplain (y_nilCheck rfl rfl) rfl rfl rfl H77 ?_
                clear H77; intro a78 H78
                refine tplain (y_fieldB rfl z_field42_0 rfl (by first | (simp only [Nat.zero_add, Nat.add_zero, Nat.reduceAdd]; rfl) | rfl)) rfl rfl rfl H78 ?_
                clear H78; intro a79 H79
                refine tplain (y_loadO rfl z_agg39 rfl (blk_cell hx rfl) (fun hmem => hne (List.mem_singleton.1 hmem))) rfl rfl rfl H79 ?_
                clear H79; intro a80 H80
                refine tplain (y_move rfl rfl) rfl rfl rfl H80 ?_
                clear H80; intro a81 H81
                refine tplain (y_ixL rfl Try.underlying39 z_size3 rfl rfl (by omega) (by omega) rfl) rfl rfl rfl H81 ?_
                clear H81; intro a82 H82
                refine tplain (y_loadB rfl z_agg3 rfl (by repeat (first | exact List.Mem.head _ | apply List.Mem.tail)) (by rw [i64_set]; exact i64_getI _ _ (by omega) (by omega))) rfl rfl rfl H82 ?_
                clear H82; intro a83 H83
                refine tplain (y_move rfl rfl) rfl rfl rfl H83 ?_
                clear H83; intro a84 H84
                refine tplain (y_add rfl rfl rfl (by first | exact w64 (by omega) (by omega) | rfl)) rfl rfl rfl H84 ?_
                clear H84; intro a85 H85
                refine tplain (y_ixL rfl Try.underlying39 z_size3 rfl rfl (by omega) (by omega) rfl) rfl rfl rfl H85 ?_
                clear H85; intro a86 H86
                refine tfin ?_
                refine st_store1 rfl z_size3 rfl rfl rfl (by repeat (first | exact Upd.head _ _ _ | apply Upd.tail)) (by first | decide | (simp; omega)) rfl rfl H86 ?_
                clear H86; intro w87 H87
                refine fin ?_
                refine then_n ?_
                refine wp_seq ?_
                refine reg ?_
                refine plain (y_assign rfl rfl) rfl rfl rfl H87 ?_
                clear H87; intro a88 H88
                refine fin ?_
                refine then_n ?_
                refine wp_ret ?_
                -- return 7
                refine ret1 rfl H88 rfl ?_
                rw [Bank.move_ok hw0 (by omega) (by omega), ← i64_set, ← i64_set]; exact Turns.ret H88.sep

end Go.Proofs.Ytlaojmcpiggfeaa.TBank4
