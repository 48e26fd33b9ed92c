/- Part of a proof about given Go functions: contracts of functions, or plain laws. -/
import Derived.Test.YtbadncpjbdfinaaDoorSxW
import Derived.Test.YtbadncpjbdfinaaDoorSxI
import Derived.Test.YtbadncpjbdfinaaDoorSha
import Derived.Test.YtbadncpjbdfinaaDoorShaAbc
import Derived.Test.YtbadncpjbdfinaaDoorSxX
import Derived.Test.YtbadncpjbdfinaaDoorSxY
import Derived.Test.YtbadncpjbdfinaaDoorMerk
import Derived.Test.YtbadncpjbdfinaaDoorProg
import Derived.Test.YtbadncpjbdfinaaDoorDBlock
import Derived.Test.YtbadncpjbdfinaaDoorDSum
import Derived.Test.YtbadncpjbdfinaaDoorDRef
import Derived.Test.YtbadncpjbdfinaaDoorDRSum
import Derived.Test.YtbadncpjbdfinaaDoorDLeaf
set_option linter.unusedVariables false
set_option linter.unusedSimpArgs false
namespace Go.Proofs.YtbadncpjbdfinaaDoor.D_Root
open Go.Sx Go.RowKit Go.Proofs.YtbadncpjbdfinaaDoor.D_Block Go.Proofs.YtbadncpjbdfinaaDoor.D_Sum Go.Proofs.YtbadncpjbdfinaaDoor.D_Ref Go.Proofs.YtbadncpjbdfinaaDoor.D_RSum Go.Proofs.YtbadncpjbdfinaaDoor.D_Leaf

theorem z_zero23 : zeroL Tryd.prog 23 = some (List.replicate 32 (.int .u8 0)) := by kernel_rfl
theorem z_size5 : sizeB Tryd.prog 5 = some 1 := by kernel_rfl
theorem z_call21 : callB Tryd.prog 21 = true := by kernel_rfl
theorem z_size23 : sizeB Tryd.prog 23 = some 32 := by kernel_rfl
theorem z_agg23 : aggB Tryd.prog 23 = some true := by kernel_rfl
theorem z_size9 : sizeB Tryd.prog 9 = some 1 := by kernel_rfl
theorem z_agg9 : aggB Tryd.prog 9 = some false := by kernel_rfl
theorem z_call41 : callB Tryd.prog 41 = true := by kernel_rfl
theorem z_call40 : callB Tryd.prog 40 = true := by kernel_rfl
theorem z_call29 : callB Tryd.prog 29 = true := by kernel_rfl
theorem z_call42 : callB Tryd.prog 42 = true := by kernel_rfl

set_option maxRecDepth 100000 in
set_option maxHeartbeats 1000000 in
theorem dleft (n : Nat) (h1 : 1 ≤ n) (hn : n ≤ 9223372036854775807) (w : World) : Calls Tryd.prog 40 #[.int .i64 (n : Int)] w (Gives (.int .i64 ((Merk.half n : Nat) : Int)) [] w) := by
  refine enterL (args := [.int .i64 (n : Int)]) Tryd.func40 rfl rfl (l := []) (Sep.refl _) ?_
  intro a0 H0
  refine wp_seq ?_
  refine reg ?_
  refine plain (y_assign rfl rfl) rfl rfl rfl H0 ?_
  clear H0; intro a1 H1
  refine fin ?_
  refine then_n ?_
  refine wp_seq ?_
  refine reg ?_
  refine plain (y_assign rfl rfl) rfl rfl rfl H1 ?_
  clear H1; intro a2 H2
  refine fin ?_
  refine then_n ?_
  refine wp_seq ?_
  refine wp_block ?_
  refine loop (ι := Nat × Nat) (fun x => [(0, .int .i64 (n : Int)), (3, .int .i64 (x.2 : Int))]) (fun x => []) (fun x => 0 < x.2 ∧ x.2 ≤ n ∧ Merk.up n x.1 x.2 = Merk.half n ∧ n ≤ x.2 + x.1) (fun x => x.1) ((n, 1)) ⟨Nat.one_pos, h1, rfl, by dsimp only; omega⟩ (H2.weak ⟨rfl, rfl, trivial⟩ rfl) ?_
  clear H2; intro x a3 wx3 hok3 H3
  obtain ⟨f, k⟩ := x
  dsimp only at hok3 H3
  obtain ⟨hk0, hkn, hup, hf⟩ := hok3
  refine wp_seq ?_
  refine wp_seq ?_
  refine reg ?_
  refine plain (y_move rfl rfl) rfl rfl rfl H3 ?_
  clear H3; intro a4 H4
  refine plain (y_move rfl rfl) rfl rfl rfl H4 ?_
  clear H4; intro a5 H5
  refine plain (y_move rfl rfl) rfl rfl rfl H5 ?_
  clear H5; intro a6 H6
  refine plain (y_sub rfl rfl rfl (by first | exact w64 (by omega) (by omega) | rfl)) rfl rfl rfl H6 ?_
  clear H6; intro a7 H7
  refine plain (y_lss rfl rfl rfl) rfl rfl rfl H7 ?_
  clear H7; intro a8 H8
  refine fin ?_
  refine then_n ?_
  refine cnd_d H8 rfl (fun hc9 => ?_) (fun hc9 => ?_) -- cond 1
  · skip
    refine wp_skip ?_
    refine then_n ?_
    refine wp_block ?_
    refine reg ?_
    refine plain (y_move rfl rfl) rfl rfl rfl H8 ?_
    clear H8; intro a10 H10
    refine plain (y_mul rfl rfl rfl (by first | exact w64 (by omega) (by omega) | rfl)) rfl rfl rfl H10 ?_
    clear H10; intro a11 H11
    refine plain (y_assign rfl rfl) rfl rfl rfl H11 ?_
    clear H11; intro a12 H12
    refine fin ?_
    refine inb_n ?_
    refine then_n ?_
    obtain ⟨g, rfl⟩ : ∃ g, f = g + 1 := ⟨f - 1, by omega⟩
    refine ⟨(g, 2 * k), by dsimp only; omega, ⟨by dsimp only; omega, by dsimp only; omega, by dsimp only; rw [← hup, Merk.up_step (by omega)], by dsimp only; omega⟩, H12.weak ⟨rfl, fi rfl (by dsimp only; omega), trivial⟩ rfl⟩
  · skip
    refine wp_exit ?_
    refine then_x ?_
    refine then_x ?_
    refine inb_hit ?_
    refine then_n ?_
    refine wp_seq ?_
    refine reg ?_
    refine plain (y_move rfl rfl) rfl rfl rfl H8 ?_
    clear H8; intro a13 H13
    refine plain (y_assign rfl rfl) rfl rfl rfl H13 ?_
    clear H13; intro a14 H14
    refine fin ?_
    refine then_n ?_
    refine wp_ret ?_
    -- return 1
    refine ret1 rfl H14 rfl ?_
    exact ⟨_, [], rfl, ⟨by rw [← hup, Merk.up_stop (by omega)], rfl⟩, H14.sep.sub (List.nil_sublist _)⟩
set_option maxRecDepth 100000 in
set_option maxHeartbeats 1000000 in
theorem rhalf (n : Nat) (h1 : 1 ≤ n) (hn : n ≤ 9223372036854775807) (w : World) : Calls Tryd.prog 44 #[.int .i64 (n : Int)] w (Gives (.int .i64 ((Merk.half n : Nat) : Int)) [] w) := by
  refine enterL (args := [.int .i64 (n : Int)]) Tryd.func44 rfl rfl (l := []) (Sep.refl _) ?_
  intro a0 H0
  refine wp_seq ?_
  refine reg ?_
  refine plain (y_assign rfl rfl) rfl rfl rfl H0 ?_
  clear H0; intro a1 H1
  refine fin ?_
  refine then_n ?_
  refine wp_seq ?_
  refine reg ?_
  refine plain (y_assign rfl rfl) rfl rfl rfl H1 ?_
  clear H1; intro a2 H2
  refine fin ?_
  refine then_n ?_
  refine wp_seq ?_
  refine wp_block ?_
  refine loop (ι := Nat × Nat) (fun x => [(0, .int .i64 (n : Int)), (3, .int .i64 (x.2 : Int))]) (fun x => []) (fun x => 0 < x.2 ∧ x.2 ≤ n ∧ Merk.up n x.1 x.2 = Merk.half n ∧ n ≤ x.2 + x.1) (fun x => x.1) ((n, 1)) ⟨Nat.one_pos, h1, rfl, by dsimp only; omega⟩ (H2.weak ⟨rfl, rfl, trivial⟩ rfl) ?_
  clear H2; intro x a3 wx3 hok3 H3
  obtain ⟨f, k⟩ := x
  dsimp only at hok3 H3
  obtain ⟨hk0, hkn, hup, hf⟩ := hok3
  refine wp_seq ?_
  refine wp_seq ?_
  refine reg ?_
  refine plain (y_move rfl rfl) rfl rfl rfl H3 ?_
  clear H3; intro a4 H4
  refine plain (y_move rfl rfl) rfl rfl rfl H4 ?_
  clear H4; intro a5 H5
  refine plain (y_move rfl rfl) rfl rfl rfl H5 ?_
  clear H5; intro a6 H6
  refine plain (y_sub rfl rfl rfl (by first | exact w64 (by omega) (by omega) | rfl)) rfl rfl rfl H6 ?_
  clear H6; intro a7 H7
  refine plain (y_lss rfl rfl rfl) rfl rfl rfl H7 ?_
  clear H7; intro a8 H8
  refine fin ?_
  refine then_n ?_
  refine cnd_d H8 rfl (fun hc9 => ?_) (fun hc9 => ?_) -- cond 1
  · skip
    refine wp_skip ?_
    refine then_n ?_
    refine wp_block ?_
    refine reg ?_
    refine plain (y_move rfl rfl) rfl rfl rfl H8 ?_
    clear H8; intro a10 H10
    refine plain (y_mul rfl rfl rfl (by first | exact w64 (by omega) (by omega) | rfl)) rfl rfl rfl H10 ?_
    clear H10; intro a11 H11
    refine plain (y_assign rfl rfl) rfl rfl rfl H11 ?_
    clear H11; intro a12 H12
    refine fin ?_
    refine inb_n ?_
    refine then_n ?_
    obtain ⟨g, rfl⟩ : ∃ g, f = g + 1 := ⟨f - 1, by omega⟩
    refine ⟨(g, 2 * k), by dsimp only; omega, ⟨by dsimp only; omega, by dsimp only; omega, by dsimp only; rw [← hup, Merk.up_step (by omega)], by dsimp only; omega⟩, H12.weak ⟨rfl, fi rfl (by dsimp only; omega), trivial⟩ rfl⟩
  · skip
    refine wp_exit ?_
    refine then_x ?_
    refine then_x ?_
    refine inb_hit ?_
    refine then_n ?_
    refine wp_seq ?_
    refine reg ?_
    refine plain (y_move rfl rfl) rfl rfl rfl H8 ?_
    clear H8; intro a13 H13
    refine plain (y_assign rfl rfl) rfl rfl rfl H13 ?_
    clear H13; intro a14 H14
    refine fin ?_
    refine then_n ?_
    refine wp_ret ?_
    -- return 1
    refine ret1 rfl H14 rfl ?_
    exact ⟨_, [], rfl, ⟨by rw [← hup, Merk.up_stop (by omega)], rfl⟩, H14.sep.sub (List.nil_sublist _)⟩
set_option maxRecDepth 100000 in
set_option maxHeartbeats 1000000 in
theorem dnode (a b : List UInt8) (ha : a.length = 32) (hb : b.length = 32) {w : World} (hG : Glob 0 Sha.K w) : Calls Tryd.prog 42 #[.agg (a.map u8).toArray, .agg (b.map u8).toArray] w (Gives (.agg ((Sha.sum (1 :: (a ++ b))).map u8).toArray) [] w) := by
  refine enterL (args := [.agg (a.map u8).toArray, .agg (b.map u8).toArray]) Tryd.func42 rfl rfl (l := []) (Sep.refl _) ?_
  intro a0 H0
  refine wp_seq ?_
  refine reg ?_
  refine st_box rfl rfl rfl rfl rfl rfl H0 ?_
  clear H0; intro b1 a1 wx1 H1
  refine st_box rfl rfl rfl rfl rfl rfl H1 ?_
  clear H1; intro b2 a2 wx2 H2
  refine st_alloc rfl z_zero23 rfl rfl rfl H2 ?_
  clear H2; intro b3 a3 wx3 H3
  refine fin ?_
  refine then_n ?_
  refine wp_seq ?_
  refine treg 6 (by kernel_rfl) (by kernel_rfl) H3 ?_
  clear H3; intro wx4 H4
  refine tplain (y_slA_all rfl Tryd.underlying23 z_size5 (by decide) rfl) rfl rfl rfl H4 ?_
  clear H4; intro a5 H5
  refine tplain (y_bstr (p := a) rfl Tryd.underlying44 Tryd.underlying5 Tryd.underlying9 rfl ha.symm (rd_blkA (by repeat (first | exact List.Mem.head _ | apply List.Mem.tail)))) rfl rfl rfl H5 ?_
  clear H5; intro a6 H6
  refine tplain (y_sadd rfl rfl rfl (by simp only [List.length_cons, List.length_nil]; omega)) rfl rfl rfl H6 ?_
  clear H6; intro a7 H7
  refine tplain (y_slA_all rfl Tryd.underlying23 z_size5 (by decide) rfl) rfl rfl rfl H7 ?_
  clear H7; intro a8 H8
  refine tplain (y_bstr (p := b) rfl Tryd.underlying44 Tryd.underlying5 Tryd.underlying9 rfl hb.symm (rd_blkA (by repeat (first | exact List.Mem.head _ | apply List.Mem.tail)))) rfl rfl rfl H8 ?_
  clear H8; intro a9 H9
  refine tplain (y_sadd rfl rfl rfl (by simp only [List.length_append, List.length_cons, List.length_nil]; omega)) rfl rfl rfl H9 ?_
  clear H9; intro a10 H10
  refine tfin ?_
  refine st_callg rfl z_call21 rfl rfl rfl rfl H10 (dsum _ (by simp only [List.length_append, List.length_cons, List.length_nil]; omega) (hG.frm H10.sep.frm (by simp))) ?_
  clear H10; intro a11 wx11 H11
  refine st_store (vs := _) rfl z_size23 rfl rfl (show _ = List.map u8 _ from rfl) (one_u8 _) (by rw [List.length_map, Sha.sum_length]) (by repeat (first | exact Upd.head _ _ _ | apply Upd.tail)) (by decide) rfl rfl H11 ?_
  clear H11; intro wx12 H12
  refine fin ?_
  refine then_n ?_
  refine wp_ret ?_
  -- return 1
  refine retc rfl H12 rfl z_agg23 z_size23 (by repeat (first | exact List.Mem.head _ | apply List.Mem.tail)) (by rw [spl_all (by rw [List.length_map, Sha.sum_length]; rfl), List.length_map, Sha.sum_length]) ?_
  refine ⟨_, [], rfl, ⟨?_, rfl⟩, H12.sep.sub (List.nil_sublist _)⟩
  rw [spl_all (by rw [List.length_map, Sha.sum_length]; rfl)]
  try rfl
set_option maxRecDepth 100000 in
set_option maxHeartbeats 2000000 in
theorem drootS (N : Nat) (ih : ∀ (l : List (List UInt8)) (A : Option Addr) (m c : Nat) (w : World), l.length < N → m = l.length → m ≤ c → (∀ x ∈ l, x.length ≤ 140737488351232) → l.length ≤ 9223372036854775807 → Rd w A (l.map str) → Glob 0 Sha.K w → Calls Tryd.prog 29 #[.slice A m c] w (Gives (.agg ((Merk.root l).map u8).toArray) [] w)) (l : List (List UInt8)) (A : Option Addr) (c : Nat) (hN : l.length = N) (hc : l.length ≤ c) (hb : ∀ x ∈ l, x.length ≤ 140737488351232) (hl : l.length ≤ 9223372036854775807) {w : World} (hR : Rd w A (l.map str)) (hG : Glob 0 Sha.K w) : Calls Tryd.prog 29 #[.slice A l.length c] w (Gives (.agg ((Merk.root l).map u8).toArray) [] w) := by
  refine enterL (args := [.slice A l.length c]) Tryd.func29 rfl rfl (l := []) (Sep.refl _) ?_
  intro a0 H0
  refine wp_seq ?_
  refine reg ?_
  refine st_alloc rfl z_zero23 rfl rfl rfl H0 ?_
  clear H0; intro b1 a1 wx1 H1
  refine fin ?_
  refine then_n ?_
  refine wp_seq ?_
  refine wp_seq ?_
  refine reg ?_
  refine plain (y_move rfl rfl) rfl rfl rfl H1 ?_
  clear H1; intro a2 H2
  refine plain (y_len rfl Tryd.underlying46 rfl) rfl rfl rfl H2 ?_
  clear H2; intro a3 H3
  refine fin ?_
  refine then_n ?_
  refine wp_block ?_
  refine wp_seq ?_
  refine reg ?_
  refine plain (y_eql rfl rfl rfl) rfl rfl rfl H3 ?_
  clear H3; intro a4 H4
  refine plain (y_assign rfl rfl) rfl rfl rfl H4 ?_
  clear H4; intro a5 H5
  refine fin ?_
  refine then_n ?_
  refine cnd_d H5 rfl (fun hc6 => ?_) (fun hc6 => ?_) -- cond 1
  · skip
    have h0 : l = [] := List.eq_nil_of_length_eq_zero (by omega)
    refine wp_seq ?_
    refine reg ?_
    refine st_callg rfl z_call21 rfl rfl rfl rfl H5 (dsum [] (by decide) (hG.frm H5.sep.frm (by simp))) ?_
    clear H5; intro a7 wx7 H7
    refine st_store (vs := _) rfl z_size23 rfl rfl (show _ = List.map u8 _ from rfl) (one_u8 _) (by rw [List.length_map, Sha.sum_length]) (by repeat (first | exact Upd.head _ _ _ | apply Upd.tail)) (by decide) rfl rfl H7 ?_
    clear H7; intro wx8 H8
    refine fin ?_
    refine then_n ?_
    refine wp_ret ?_
    refine inb_r ?_
    refine then_r ?_
    -- return 1
    refine retc rfl H8 rfl z_agg23 z_size23 (by repeat (first | exact List.Mem.head _ | apply List.Mem.tail)) (by rw [spl_all (by rw [List.length_map, Sha.sum_length]; rfl), List.length_map, Sha.sum_length]) ?_
    refine ⟨_, [], rfl, ⟨?_, rfl⟩, H8.sep.sub (List.nil_sublist _)⟩
    rw [spl_all (by rw [List.length_map, Sha.sum_length]; rfl), h0, Merk.root_nil]
    try rfl
  · skip
    refine wp_seq ?_
    refine reg ?_
    refine plain (y_eql rfl rfl rfl) rfl rfl rfl H5 ?_
    clear H5; intro a9 H9
    refine plain (y_assign rfl rfl) rfl rfl rfl H9 ?_
    clear H9; intro a10 H10
    refine fin ?_
    refine then_n ?_
    refine cnd_d H10 rfl (fun hc11 => ?_) (fun hc11 => ?_) -- cond 2
    · skip
      obtain ⟨x, h0⟩ : ∃ x, l = [x] := by match l, (show l.length = 1 by omega) with | [x], _ => exact ⟨x, rfl⟩
      refine wp_seq ?_
      refine reg ?_
      refine plain (y_move rfl rfl) rfl rfl rfl H10 ?_
      clear H10; intro a12 H12
      refine plain (y_ixR rfl Tryd.underlying46 z_size9 rfl rfl (by omega) (by omega) (rd_old (by assumption) (by simp)) (by rw [List.length_map]; omega)) rfl rfl rfl H12 ?_
      clear H12; intro a13 H13
      refine plain (y_loadR rfl z_agg9 rfl (rd_old (by assumption) (by simp)) (map_get str l 0 [] (by omega))) rfl rfl rfl H13 ?_
      clear H13; intro a14 H14
      refine st_callg rfl z_call41 rfl rfl rfl rfl H14 (dleaf _ (by have := hb (l.getD 0 []) (by rw [Oct.getD_eq [] (by omega)]; exact List.getElem_mem _); omega) (hG.frm H14.sep.frm (by simp))) ?_
      clear H14; intro a15 wx15 H15
      refine st_store (vs := _) rfl z_size23 rfl rfl (show _ = List.map u8 _ from rfl) (one_u8 _) (by rw [List.length_map, Sha.sum_length]) (by repeat (first | exact Upd.head _ _ _ | apply Upd.tail)) (by decide) rfl rfl H15 ?_
      clear H15; intro wx16 H16
      refine fin ?_
      refine then_n ?_
      refine wp_ret ?_
      refine inb_r ?_
      refine then_r ?_
      -- return 2
      refine retc rfl H16 rfl z_agg23 z_size23 (by repeat (first | exact List.Mem.head _ | apply List.Mem.tail)) (by rw [spl_all (by rw [List.length_map, Sha.sum_length]; rfl), List.length_map, Sha.sum_length]) ?_
      refine ⟨_, [], rfl, ⟨?_, rfl⟩, H16.sep.sub (List.nil_sublist _)⟩
      rw [spl_all (by rw [List.length_map, Sha.sum_length]; rfl), h0, Merk.root_one]
      try rfl
    · skip
      have hhl := Merk.half_lt (n := l.length) (by omega)
      refine wp_skip ?_
      refine inb_n ?_
      refine then_n ?_
      refine wp_seq ?_
      refine reg ?_
      refine plain (y_move rfl rfl) rfl rfl rfl H10 ?_
      clear H10; intro a17 H17
      refine plain (y_len rfl Tryd.underlying46 rfl) rfl rfl rfl H17 ?_
      clear H17; intro a18 H18
      refine st_callg rfl z_call40 rfl rfl rfl rfl H18 (dleft l.length (by omega) hl _) ?_
      clear H18; intro a19 wx19 H19
      refine plain (y_assign rfl rfl) rfl rfl rfl H19 ?_
      clear H19; intro a20 H20
      refine fin ?_
      refine then_n ?_
      refine wp_seq ?_
      refine hreg [] (fun _ h => (h.sub (by first | exact List.nil_sublist _ | exact List.Sublist.refl _ | repeat (first | exact List.Sublist.refl _ | exact List.nil_sublist _ | apply List.Sublist.cons_cons | apply List.Sublist.cons)))) (by kernel_rfl) H20 ?_
      clear H20; intro wx21 H21
      refine htake 0 rfl (by kernel_rfl) (y_move rfl rfl) rfl rfl rfl (fun _ h => (h.sub (by first | exact List.nil_sublist _ | exact List.Sublist.refl _ | repeat (first | exact List.Sublist.refl _ | exact List.nil_sublist _ | apply List.Sublist.cons_cons | apply List.Sublist.cons)))) H21 ?_
      clear H21; intro a22 H22
      refine htake 1 rfl (by kernel_rfl) (y_move rfl rfl) rfl rfl rfl (fun _ h => (h.sub (by first | exact List.nil_sublist _ | exact List.Sublist.refl _ | repeat (first | exact List.Sublist.refl _ | exact List.nil_sublist _ | apply List.Sublist.cons_cons | apply List.Sublist.cons)))) H22 ?_
      clear H22; intro a23 H23
      refine htake 2 rfl (by kernel_rfl) (y_slS_hi rfl Tryd.underlying46 z_size9 rfl rfl (by omega) (by omega) hc) rfl rfl rfl (fun _ h => (h.sub (by first | exact List.nil_sublist _ | exact List.Sublist.refl _ | repeat (first | exact List.Sublist.refl _ | exact List.nil_sublist _ | apply List.Sublist.cons_cons | apply List.Sublist.cons)))) H23 ?_
      clear H23; intro a24 H24
      refine htake 4 rfl (by kernel_rfl) (y_move rfl rfl) rfl rfl rfl (fun _ h => (h.sub (by first | exact List.nil_sublist _ | exact List.Sublist.refl _ | repeat (first | exact List.Sublist.refl _ | exact List.nil_sublist _ | apply List.Sublist.cons_cons | apply List.Sublist.cons)))) H24 ?_
      clear H24; intro a25 H25
      refine htake 5 rfl (by kernel_rfl) (y_move rfl rfl) rfl rfl rfl (fun _ h => (h.sub (by first | exact List.nil_sublist _ | exact List.Sublist.refl _ | repeat (first | exact List.Sublist.refl _ | exact List.nil_sublist _ | apply List.Sublist.cons_cons | apply List.Sublist.cons)))) H25 ?_
      clear H25; intro a26 H26
      refine htake 6 rfl (by kernel_rfl) (y_slS_lo rfl Tryd.underlying46 z_size9 rfl rfl (by omega) (by omega)) rfl rfl rfl (fun _ h => (h.sub (by first | exact List.nil_sublist _ | exact List.Sublist.refl _ | repeat (first | exact List.Sublist.refl _ | exact List.nil_sublist _ | apply List.Sublist.cons_cons | apply List.Sublist.cons)))) H26 ?_
      clear H26; intro a27 H27
      refine hgo 3 rfl (by kernel_rfl) ?_
      refine st_callg rfl z_call29 rfl rfl rfl rfl H27 (ih (l.take (Merk.half l.length)) _ _ _ _ (by rw [List.length_take]; omega) (by rw [List.length_take]; omega) (by omega) (fun x hx => hb x (List.mem_of_mem_take hx)) (by rw [List.length_take]; omega) (by rw [List.map_take]; exact (Rd.frm hR H27.sep.frm (by simp)).take _) (hG.frm H27.sep.frm (by simp))) ?_
      clear H27; intro a28 wx28 H28
      refine hfin (H28.sep.sub (by first | exact List.nil_sublist _ | exact List.Sublist.refl _ | repeat (first | exact List.Sublist.refl _ | exact List.nil_sublist _ | apply List.Sublist.cons_cons | apply List.Sublist.cons))) ?_
      refine hgo 7 rfl (by kernel_rfl) ?_
      refine st_callg rfl z_call29 rfl rfl rfl rfl H28 (ih (l.drop (Merk.half l.length)) _ _ _ _ (by rw [List.length_drop]; omega) (by rw [List.length_drop]; omega) (by omega) (fun x hx => hb x (List.mem_of_mem_drop hx)) (by rw [List.length_drop]; omega) (by rw [List.map_drop, Nat.mul_one]; exact (Rd.frm hR H28.sep.frm (by simp)).drop _ _ (fun h => by rw [List.length_map]; omega)) (hG.frm H28.sep.frm (by simp))) ?_
      clear H28; intro a29 wx29 H29
      refine hfin (H29.sep.sub (by first | exact List.nil_sublist _ | exact List.Sublist.refl _ | repeat (first | exact List.Sublist.refl _ | exact List.nil_sublist _ | apply List.Sublist.cons_cons | apply List.Sublist.cons))) ?_
      refine hgo 8 rfl (by kernel_rfl) ?_
      refine st_callg rfl z_call42 rfl rfl rfl rfl H29 (dnode _ _ (Merk.root_len _) (Merk.root_len _) (hG.frm H29.sep.frm (by simp))) ?_
      clear H29; intro a30 wx30 H30
      refine hfin (H30.sep.sub (by first | exact List.nil_sublist _ | exact List.Sublist.refl _ | repeat (first | exact List.Sublist.refl _ | exact List.nil_sublist _ | apply List.Sublist.cons_cons | apply List.Sublist.cons))) ?_
      refine hgo 9 rfl (by kernel_rfl) ?_
      refine st_store (vs := _) rfl z_size23 rfl rfl (show _ = List.map u8 _ from rfl) (one_u8 _) (by rw [List.length_map, Sha.sum_length]) (by repeat (first | exact Upd.head _ _ _ | apply Upd.tail)) (by decide) rfl rfl H30 ?_
      clear H30; intro wx31 H31
      refine hfin (H31.sep.sub (by first | exact List.nil_sublist _ | exact List.Sublist.refl _ | repeat (first | exact List.Sublist.refl _ | exact List.nil_sublist _ | apply List.Sublist.cons_cons | apply List.Sublist.cons))) ?_
      refine hdone (by kernel_rfl) ?_
      refine then_n ?_
      refine wp_ret ?_
      -- return 3
      refine retc rfl H31 rfl z_agg23 z_size23 (by repeat (first | exact List.Mem.head _ | apply List.Mem.tail)) (by rw [spl_all (by rw [List.length_map, Sha.sum_length]; rfl), List.length_map, Sha.sum_length]) ?_
      refine ⟨_, [], rfl, ⟨?_, rfl⟩, H31.sep.sub (List.nil_sublist _)⟩
      rw [spl_all (by rw [List.length_map, Sha.sum_length]; rfl), Merk.root_more (l := l) (by omega)]
      try rfl

end Go.Proofs.YtbadncpjbdfinaaDoor.D_Root
