/- Part of a proof about given Go functions: contracts of functions, or plain laws. -/
import Derived.Test.YtbadncpjbdfinaaDoorSxW
import Derived.Test.YtbadncpjbdfinaaDoorSxI
import Derived.Test.YtbadncpjbdfinaaDoorSha
import Derived.Test.YtbadncpjbdfinaaDoorShaAbc
import Derived.Test.YtbadncpjbdfinaaDoorSxX
import Derived.Test.YtbadncpjbdfinaaDoorSxY
import Derived.Test.YtbadncpjbdfinaaDoorMerk
import Derived.Test.YtbadncpjbdfinaaDoorOct2
import Derived.Test.YtbadncpjbdfinaaDoorSxZ
import Derived.Test.YtbadncpjbdfinaaDoorMerk2
import Derived.Test.YtbadncpjbdfinaaDoorProg
import Derived.Test.YtbadncpjbdfinaaDoorDBlock
import Derived.Test.YtbadncpjbdfinaaDoorDSum
import Derived.Test.YtbadncpjbdfinaaDoorDRef
import Derived.Test.YtbadncpjbdfinaaDoorDRSum
import Derived.Test.YtbadncpjbdfinaaDoorDLeaf
import Derived.Test.YtbadncpjbdfinaaDoorDRoot
import Derived.Test.YtbadncpjbdfinaaDoorDRoot2
set_option linter.unusedVariables false
set_option linter.unusedSimpArgs false
namespace Go.Proofs.YtbadncpjbdfinaaDoor.D_RProves
open Go.Sx Go.RowKit Go.Proofs.YtbadncpjbdfinaaDoor.D_Block Go.Proofs.YtbadncpjbdfinaaDoor.D_Sum Go.Proofs.YtbadncpjbdfinaaDoor.D_Ref Go.Proofs.YtbadncpjbdfinaaDoor.D_RSum Go.Proofs.YtbadncpjbdfinaaDoor.D_Leaf Go.Proofs.YtbadncpjbdfinaaDoor.D_Root Go.Proofs.YtbadncpjbdfinaaDoor.D_Root2

theorem z_zero23 : zeroL Tryd.prog 23 = some (List.replicate 32 (.int .u8 0)) := by kernel_rfl
theorem z_call22 : callB Tryd.prog 22 = true := by kernel_rfl
theorem z_size23 : sizeB Tryd.prog 23 = some 32 := by kernel_rfl
theorem z_agg23 : aggB Tryd.prog 23 = some true := by kernel_rfl
theorem z_size5 : sizeB Tryd.prog 5 = some 1 := by kernel_rfl
theorem z_call44 : callB Tryd.prog 44 = true := by kernel_rfl
theorem z_call43 : callB Tryd.prog 43 = true := by kernel_rfl
theorem z_call34 : callB Tryd.prog 34 = true := by kernel_rfl

set_option maxRecDepth 100000 in
set_option maxHeartbeats 4000000 in
theorem rbackS (N : Nat) (ih : ∀ (n i : Nat) (s : List UInt8) (p : List (List UInt8)) (A : Option Addr) (m c : Nat) (w : World), n < N → m = p.length → 1 ≤ n → n ≤ 9223372036854775807 → i < n → s.length ≤ 140737488351232 → H32 p → p.length ≤ 9223372036854775807 → p.length ≤ c → Rd w A (hc p) → Calls Tryd.prog 43 #[.int .i64 (n : Int), .int .i64 (i : Int), str s, .slice A m c] w (Gives (.tuple #[.agg ((Merk.back (Sha.sum (0 :: s)) (Merk.path n i) p.reverse).1.map u8).toArray, .bool (Merk.back (Sha.sum (0 :: s)) (Merk.path n i) p.reverse).2]) [] w)) (n i : Nat) (hN : n = N) (h1 : 1 ≤ n) (hn : n ≤ 9223372036854775807) (hi : i < n) (s : List UInt8) (hs : s.length ≤ 140737488351232) (p : List (List UInt8)) (hp : H32 p) (hpl : p.length ≤ 9223372036854775807) (A : Option Addr) (c : Nat) (hpc : p.length ≤ c) {w : World} (hR : Rd w A (hc p)) : Calls Tryd.prog 43 #[.int .i64 (n : Int), .int .i64 (i : Int), str s, .slice A p.length c] w (Gives (.tuple #[.agg ((Merk.back (Sha.sum (0 :: s)) (Merk.path n i) p.reverse).1.map u8).toArray, .bool (Merk.back (Sha.sum (0 :: s)) (Merk.path n i) p.reverse).2]) [] w) := by
  refine enterL (args := [.int .i64 (n : Int), .int .i64 (i : Int), str s, .slice A p.length c]) Tryd.func43 rfl rfl (l := []) (Sep.refl _) ?_
  intro a0 H0
  refine wp_seq ?_
  refine reg ?_
  refine st_alloc rfl z_zero23 rfl rfl rfl H0 ?_
  clear H0; intro b1 a1 wx1 H1
  refine plain (y_assign rfl rfl) rfl rfl rfl H1 ?_
  clear H1; intro a2 H2
  refine fin ?_
  refine then_n ?_
  refine wp_seq ?_
  refine wp_seq ?_
  refine reg ?_
  refine plain (y_move rfl rfl) rfl rfl rfl H2 ?_
  clear H2; intro a3 H3
  refine plain (y_eql rfl rfl rfl) rfl rfl rfl H3 ?_
  clear H3; intro a4 H4
  refine fin ?_
  refine then_n ?_
  refine cnd_d H4 rfl (fun hc5 => ?_) (fun hc5 => ?_) -- cond 1
  · skip
    refine wp_seq ?_
    refine reg ?_
    refine plain (y_move rfl rfl) rfl rfl rfl H4 ?_
    clear H4; intro a6 H6
    refine plain (y_sadd rfl rfl rfl (by simp only [List.length_cons, List.length_nil]; omega)) rfl rfl rfl H6 ?_
    clear H6; intro a7 H7
    refine st_callg rfl z_call22 rfl rfl rfl rfl H7 (rsum _ (by simp only [List.length_append, List.length_cons, List.length_nil]; omega) _) ?_
    clear H7; intro a8 wx8 H8
    refine plain (y_move rfl rfl) rfl rfl rfl H8 ?_
    clear H8; intro a9 H9
    refine plain (y_len rfl Tryd.underlying38 rfl) rfl rfl rfl H9 ?_
    clear H9; intro a10 H10
    refine plain (y_eql rfl rfl rfl) rfl rfl rfl H10 ?_
    clear H10; intro a11 H11
    refine st_store (vs := _) rfl z_size23 rfl rfl (show _ = List.map u8 _ from rfl) (one_u8 _) (by rw [List.length_map, Sha.sum_length]) (by repeat (first | exact Upd.head _ _ _ | apply Upd.tail)) (by decide) rfl rfl H11 ?_
    clear H11; intro wx12 H12
    refine plain (y_assign rfl rfl) rfl rfl rfl H12 ?_
    clear H12; intro a13 H13
    refine fin ?_
    refine then_n ?_
    refine wp_ret ?_
    refine then_r ?_
    -- return 1
    refine retct rfl H13 rfl z_agg23 z_size23 (by repeat (first | exact List.Mem.head _ | apply List.Mem.tail)) (by rw [spl_all (by rw [List.length_map, Sha.sum_length]; rfl), List.length_map, Sha.sum_length]) rfl ?_
    refine ⟨_, [], rfl, ⟨?_, rfl⟩, H13.sep.sub (List.nil_sublist _)⟩
    rw [spl_all (by rw [List.length_map, Sha.sum_length]; rfl)]
    rw [Merk.path_small (by omega)]
    simp [Merk.back]
  · skip
    refine wp_skip ?_
    refine then_n ?_
    refine wp_seq ?_
    refine wp_seq ?_
    refine reg ?_
    refine plain (y_move rfl rfl) rfl rfl rfl H4 ?_
    clear H4; intro a14 H14
    refine plain (y_len rfl Tryd.underlying38 rfl) rfl rfl rfl H14 ?_
    clear H14; intro a15 H15
    refine plain (y_eql rfl rfl rfl) rfl rfl rfl H15 ?_
    clear H15; intro a16 H16
    refine fin ?_
    refine then_n ?_
    refine cnd_d H16 rfl (fun hc17 => ?_) (fun hc17 => ?_) -- cond 2
    · skip
      have hp0 : p = [] := List.eq_nil_of_length_eq_zero (by omega)
      refine wp_seq ?_
      refine reg ?_
      refine plain (y_buildA rfl z_zero23 Tryd.underlying23 z_size5 rfl rfl) rfl rfl rfl H16 ?_
      clear H16; intro a18 H18
      refine st_store (vs := _) rfl z_size23 rfl rfl rfl rfl rfl (by repeat (first | exact Upd.head _ _ _ | apply Upd.tail)) (by decide) rfl rfl H18 ?_
      clear H18; intro wx19 H19
      refine plain (y_assign rfl rfl) rfl rfl rfl H19 ?_
      clear H19; intro a20 H20
      refine fin ?_
      refine then_n ?_
      refine wp_ret ?_
      refine then_r ?_
      -- return 2
      refine retct rfl H20 rfl z_agg23 z_size23 (by repeat (first | exact List.Mem.head _ | apply List.Mem.tail)) rfl rfl ?_
      refine ⟨_, [], rfl, ⟨?_, rfl⟩, H20.sep.sub (List.nil_sublist _)⟩
      rw [hp0, Merk.path_step (by omega)]
      rfl
    · skip
      have hp0 : 0 < p.length := by omega
      have hrl := rev_last hp0
      have hhl := Merk.half_lt (n := n) (by omega)
      have hpt := Merk.path_step (n := n) (i := i) (by omega)
      have hlast := hp.getD (show p.length - 1 < p.length by omega)
      have hbl := fun bs rs => Merk.back_len (h0 := Sha.sum (0 :: s)) (Sha.sum_length _) bs rs
      refine wp_skip ?_
      refine then_n ?_
      refine wp_seq ?_
      refine reg ?_
      refine plain (y_move rfl rfl) rfl rfl rfl H16 ?_
      clear H16; intro a21 H21
      refine plain (y_move rfl rfl) rfl rfl rfl H21 ?_
      clear H21; intro a22 H22
      refine plain (y_len rfl Tryd.underlying38 rfl) rfl rfl rfl H22 ?_
      clear H22; intro a23 H23
      refine plain (y_sub rfl rfl rfl (by first | exact w64 (by omega) (by omega) | rfl)) rfl rfl rfl H23 ?_
      clear H23; intro a24 H24
      refine plain (y_ixR rfl Tryd.underlying38 z_size23 rfl rfl (by omega) (by omega) (rd_old (by assumption) (by simp)) (by rw [hc_len hp]; omega)) rfl rfl rfl H24 ?_
      clear H24; intro a25 H25
      refine plain (y_loadAS rfl z_agg23 z_size23 rfl (rd_old (by assumption) (by simp)) (show _ = (p.getD (p.length - 1) []).map u8 by rw [show (((p.length : Nat) : Int) - 1).toNat * 32 = (p.length - 1) * 32 by omega]; exact hc_take (p.length - 1) hp (by omega)) (by rw [List.length_map, hlast]) (by decide)) rfl rfl rfl H25 ?_
      clear H25; intro a26 H26
      refine st_alloc rfl z_zero23 rfl rfl rfl H26 ?_
      clear H26; intro b27 a27 wx27 H27
      refine st_store (vs := _) rfl z_size23 rfl rfl (show _ = List.map u8 _ from rfl) (one_u8 _) (by rw [List.length_map, hlast]) (by repeat (first | exact Upd.head _ _ _ | apply Upd.tail)) (by decide) rfl rfl H27 ?_
      clear H27; intro wx28 H28
      refine fin ?_
      refine then_n ?_
      refine wp_seq ?_
      refine reg ?_
      rw [spl_all (by rw [List.length_map, hlast]; rfl)] at H28
      refine plain (y_move rfl rfl) rfl rfl rfl H28 ?_
      clear H28; intro a29 H29
      refine st_callg rfl z_call44 rfl rfl rfl rfl H29 (rhalf n (by omega) hn _) ?_
      clear H29; intro a30 wx30 H30
      refine plain (y_assign rfl rfl) rfl rfl rfl H30 ?_
      clear H30; intro a31 H31
      refine fin ?_
      refine then_n ?_
      refine wp_seq ?_
      refine wp_seq ?_
      refine reg ?_
      refine plain (y_move rfl rfl) rfl rfl rfl H31 ?_
      clear H31; intro a32 H32
      refine plain (y_move rfl rfl) rfl rfl rfl H32 ?_
      clear H32; intro a33 H33
      refine plain (y_lss rfl rfl rfl) rfl rfl rfl H33 ?_
      clear H33; intro a34 H34
      refine fin ?_
      refine then_n ?_
      refine cnd_d H34 rfl (fun hc35 => ?_) (fun hc35 => ?_) -- cond 3
      · skip
        have hlt : i < Merk.half n := by omega
        rw [if_pos hlt, decide_eq_true hlt] at hpt
        refine wp_seq ?_
        refine reg ?_
        refine plain (y_move rfl rfl) rfl rfl rfl H34 ?_
        clear H34; intro a36 H36
        refine plain (y_move rfl rfl) rfl rfl rfl H36 ?_
        clear H36; intro a37 H37
        refine plain (y_move rfl rfl) rfl rfl rfl H37 ?_
        clear H37; intro a38 H38
        refine plain (y_move rfl rfl) rfl rfl rfl H38 ?_
        clear H38; intro a39 H39
        refine plain (y_move rfl rfl) rfl rfl rfl H39 ?_
        clear H39; intro a40 H40
        refine plain (y_len rfl Tryd.underlying38 rfl) rfl rfl rfl H40 ?_
        clear H40; intro a41 H41
        refine plain (y_sub rfl rfl rfl (by first | exact w64 (by omega) (by omega) | rfl)) rfl rfl rfl H41 ?_
        clear H41; intro a42 H42
        refine plain (y_slS_hi rfl Tryd.underlying38 z_size23 rfl rfl (by omega) (by omega) hpc) rfl rfl rfl H42 ?_
        clear H42; intro a43 H43
        refine st_callg rfl z_call43 rfl rfl rfl rfl H43 (ih (Merk.half n) i s (p.take (p.length - 1)) A _ c _ (by omega) (by rw [List.length_take]; omega) (by omega) (by omega) (by omega) hs (hp.take _) (by rw [List.length_take]; omega) (by rw [List.length_take]; omega) (by have := (Rd.frm hR H43.sep.frm (by simp)).take ((p.length - 1) * 32); rwa [hc_takes _ hp] at this)) ?_
        clear H43; intro a44 wx44 H44
        refine plain (y_move rfl rfl) rfl rfl rfl H44 ?_
        clear H44; intro a45 H45
        refine plain (y_extract rfl rfl rfl) rfl rfl rfl H45 ?_
        clear H45; intro a46 H46
        refine plain (y_extract rfl rfl rfl) rfl rfl rfl H46 ?_
        clear H46; intro a47 H47
        refine st_alloc rfl z_zero23 rfl rfl rfl H47 ?_
        clear H47; intro b48 a48 wx48 H48
        refine st_store (vs := _) rfl z_size23 rfl rfl (show _ = List.map u8 _ from rfl) (one_u8 _) (by rw [List.length_map, hbl]) (by repeat (first | exact Upd.head _ _ _ | apply Upd.tail)) (by decide) rfl rfl H48 ?_
        clear H48; intro wx49 H49
        refine plain (y_assign rfl rfl) rfl rfl rfl H49 ?_
        clear H49; intro a50 H50
        refine fin ?_
        refine then_n ?_
        refine wp_seq ?_
        refine hreg [It.blk b48 23 (spl (List.replicate 32 (Value.int .u8 0)) 0 ((Merk.back (Sha.sum (0 :: s)) (Merk.path (Merk.half n) i) (p.take (p.length - 1)).reverse).1.map u8)), It.blk b27 23 ((p.getD (p.length - 1) []).map u8)] (fun _ h => (h.sub (by first | exact List.nil_sublist _ | exact List.Sublist.refl _ | repeat (first | exact List.Sublist.refl _ | exact List.nil_sublist _ | apply List.Sublist.cons_cons | apply List.Sublist.cons)))) (by kernel_rfl) H50 ?_
        clear H50; intro wx51 H51
        refine htake 0 rfl (by kernel_rfl) (y_loadAB rfl z_agg23 z_size23 rfl (by repeat (first | exact List.Mem.head _ | apply List.Mem.tail)) (show _ = (Merk.back (Sha.sum (0 :: s)) (Merk.path (Merk.half n) i) (p.take (p.length - 1)).reverse).1.map u8 by rw [spl_all (by rw [List.length_map, hbl]; rfl)]; exact take_all (by rw [List.length_map, hbl])) (by rw [List.length_map, hbl])) rfl rfl rfl (fun _ h => (h.sub (by first | exact List.nil_sublist _ | exact List.Sublist.refl _ | repeat (first | exact List.Sublist.refl _ | exact List.nil_sublist _ | apply List.Sublist.cons_cons | apply List.Sublist.cons)))) H51 ?_
        clear H51; intro a52 H52
        refine htake 3 rfl (by kernel_rfl) (y_loadAB rfl z_agg23 z_size23 rfl (by repeat (first | exact List.Mem.head _ | apply List.Mem.tail)) (take_all (by rw [List.length_map, hlast])) (by rw [List.length_map, hlast])) rfl rfl rfl (fun _ h => (h.sub (by first | exact List.nil_sublist _ | exact List.Sublist.refl _ | repeat (first | exact List.Sublist.refl _ | exact List.nil_sublist _ | apply List.Sublist.cons_cons | apply List.Sublist.cons)))) H52 ?_
        clear H52; intro a53 H53
        refine htake 7 rfl (by kernel_rfl) (y_move rfl rfl) rfl rfl rfl (fun _ h => (h.sub (by first | exact List.nil_sublist _ | exact List.Sublist.refl _ | repeat (first | exact List.Sublist.refl _ | exact List.nil_sublist _ | apply List.Sublist.cons_cons | apply List.Sublist.cons)))) H53 ?_
        clear H53; intro a54 H54
        refine hgo 1 rfl (by kernel_rfl) ?_
        refine st_callg rfl z_call34 rfl rfl rfl rfl H54 (rbytes _ (hbl _ _) _) ?_
        clear H54; intro a55 wx55 H55
        refine hfin (H55.sep.sub (by first | exact List.nil_sublist _ | exact List.Sublist.refl _ | repeat (first | exact List.Sublist.refl _ | exact List.nil_sublist _ | apply List.Sublist.cons_cons | apply List.Sublist.cons))) ?_
        refine htake 2 rfl (by kernel_rfl) (y_sadd rfl rfl rfl (by simp only [List.length_append, List.length_cons, List.length_nil, hbl, hlast]; omega)) rfl rfl rfl (fun _ h => (h.sub (by first | exact List.nil_sublist _ | exact List.Sublist.refl _ | repeat (first | exact List.Sublist.refl _ | exact List.nil_sublist _ | apply List.Sublist.cons_cons | apply List.Sublist.cons)))) H55 ?_
        clear H55; intro a56 H56
        refine hgo 4 rfl (by kernel_rfl) ?_
        refine st_callg rfl z_call34 rfl rfl rfl rfl H56 (rbytes _ hlast _) ?_
        clear H56; intro a57 wx57 H57
        refine hfin (H57.sep.sub (by first | exact List.nil_sublist _ | exact List.Sublist.refl _ | repeat (first | exact List.Sublist.refl _ | exact List.nil_sublist _ | apply List.Sublist.cons_cons | apply List.Sublist.cons))) ?_
        refine htake 5 rfl (by kernel_rfl) (y_sadd rfl rfl rfl (by simp only [List.length_append, List.length_cons, List.length_nil, hbl, hlast]; omega)) rfl rfl rfl (fun _ h => (h.sub (by first | exact List.nil_sublist _ | exact List.Sublist.refl _ | repeat (first | exact List.Sublist.refl _ | exact List.nil_sublist _ | apply List.Sublist.cons_cons | apply List.Sublist.cons)))) H57 ?_
        clear H57; intro a58 H58
        refine hgo 6 rfl (by kernel_rfl) ?_
        refine st_callg rfl z_call22 rfl rfl rfl rfl H58 (rsum _ (by simp only [List.length_append, List.length_cons, List.length_nil, hbl, hlast]; omega) _) ?_
        clear H58; intro a59 wx59 H59
        refine hfin (H59.sep.sub (by first | exact List.nil_sublist _ | exact List.Sublist.refl _ | repeat (first | exact List.Sublist.refl _ | exact List.nil_sublist _ | apply List.Sublist.cons_cons | apply List.Sublist.cons))) ?_
        refine hgo 8 rfl (by kernel_rfl) ?_
        refine st_store (vs := _) rfl z_size23 rfl rfl (show _ = List.map u8 _ from rfl) (one_u8 _) (by rw [List.length_map, Sha.sum_length]) (by repeat (first | exact Upd.head _ _ _ | apply Upd.tail)) (by decide) rfl rfl H59 ?_
        clear H59; intro wx60 H60
        refine hfin (H60.sep.sub (by first | exact List.nil_sublist _ | exact List.Sublist.refl _ | repeat (first | exact List.Sublist.refl _ | exact List.nil_sublist _ | apply List.Sublist.cons_cons | apply List.Sublist.cons))) ?_
        refine htake 9 rfl (by kernel_rfl) (y_assign rfl rfl) rfl rfl rfl (fun _ h => (h.sub (by first | exact List.nil_sublist _ | exact List.Sublist.refl _ | repeat (first | exact List.Sublist.refl _ | exact List.nil_sublist _ | apply List.Sublist.cons_cons | apply List.Sublist.cons)))) H60 ?_
        clear H60; intro a61 H61
        refine hdone (by kernel_rfl) ?_
        refine then_n ?_
        refine wp_ret ?_
        refine then_r ?_
        -- return 3
        refine retct rfl H61 rfl z_agg23 z_size23 (by repeat (first | exact List.Mem.head _ | apply List.Mem.tail)) (by rw [spl_all (by rw [List.length_map, Sha.sum_length]; rfl), List.length_map, Sha.sum_length]) rfl ?_
        refine ⟨_, [], rfl, ⟨?_, rfl⟩, H61.sep.sub (List.nil_sublist _)⟩
        rw [spl_all (by rw [List.length_map, Sha.sum_length]; rfl)]
        rw [hrl, hpt, Merk.back]
        first | rfl | simp
      · skip
        have hlt : ¬ i < Merk.half n := by omega
        rw [if_neg hlt, decide_eq_false hlt] at hpt
        refine wp_skip ?_
        refine then_n ?_
        refine wp_seq ?_
        refine reg ?_
        refine plain (y_move rfl rfl) rfl rfl rfl H34 ?_
        clear H34; intro a62 H62
        refine plain (y_move rfl rfl) rfl rfl rfl H62 ?_
        clear H62; intro a63 H63
        refine plain (y_sub rfl rfl rfl (show IntKind.i64.wrap ((n : Int) - ((Merk.half n : Nat) : Int)) = ((n - Merk.half n : Nat) : Int) by rw [w64 (by omega) (by omega)]; omega)) rfl rfl rfl H63 ?_
        clear H63; intro a64 H64
        refine plain (y_move rfl rfl) rfl rfl rfl H64 ?_
        clear H64; intro a65 H65
        refine plain (y_move rfl rfl) rfl rfl rfl H65 ?_
        clear H65; intro a66 H66
        refine plain (y_sub rfl rfl rfl (show IntKind.i64.wrap ((i : Int) - ((Merk.half n : Nat) : Int)) = ((i - Merk.half n : Nat) : Int) by rw [w64 (by omega) (by omega)]; omega)) rfl rfl rfl H66 ?_
        clear H66; intro a67 H67
        refine plain (y_move rfl rfl) rfl rfl rfl H67 ?_
        clear H67; intro a68 H68
        refine plain (y_move rfl rfl) rfl rfl rfl H68 ?_
        clear H68; intro a69 H69
        refine plain (y_move rfl rfl) rfl rfl rfl H69 ?_
        clear H69; intro a70 H70
        refine plain (y_len rfl Tryd.underlying38 rfl) rfl rfl rfl H70 ?_
        clear H70; intro a71 H71
        refine plain (y_sub rfl rfl rfl (by first | exact w64 (by omega) (by omega) | rfl)) rfl rfl rfl H71 ?_
        clear H71; intro a72 H72
        refine plain (y_slS_hi rfl Tryd.underlying38 z_size23 rfl rfl (by omega) (by omega) hpc) rfl rfl rfl H72 ?_
        clear H72; intro a73 H73
        refine st_callg rfl z_call43 rfl rfl rfl rfl H73 (ih (n - Merk.half n) (i - Merk.half n) s (p.take (p.length - 1)) A _ c _ (by omega) (by rw [List.length_take]; omega) (by omega) (by omega) (by omega) hs (hp.take _) (by rw [List.length_take]; omega) (by rw [List.length_take]; omega) (by have := (Rd.frm hR H73.sep.frm (by simp)).take ((p.length - 1) * 32); rwa [hc_takes _ hp] at this)) ?_
        clear H73; intro a74 wx74 H74
        refine plain (y_move rfl rfl) rfl rfl rfl H74 ?_
        clear H74; intro a75 H75
        refine plain (y_extract rfl rfl rfl) rfl rfl rfl H75 ?_
        clear H75; intro a76 H76
        refine plain (y_extract rfl rfl rfl) rfl rfl rfl H76 ?_
        clear H76; intro a77 H77
        refine st_alloc rfl z_zero23 rfl rfl rfl H77 ?_
        clear H77; intro b78 a78 wx78 H78
        refine st_store (vs := _) rfl z_size23 rfl rfl (show _ = List.map u8 _ from rfl) (one_u8 _) (by rw [List.length_map, hbl]) (by repeat (first | exact Upd.head _ _ _ | apply Upd.tail)) (by decide) rfl rfl H78 ?_
        clear H78; intro wx79 H79
        refine plain (y_assign rfl rfl) rfl rfl rfl H79 ?_
        clear H79; intro a80 H80
        refine fin ?_
        refine then_n ?_
        refine wp_seq ?_
        refine hreg [It.blk b78 23 (spl (List.replicate 32 (Value.int .u8 0)) 0 ((Merk.back (Sha.sum (0 :: s)) (Merk.path (n - Merk.half n) (i - Merk.half n)) (p.take (p.length - 1)).reverse).1.map u8)), It.blk b27 23 ((p.getD (p.length - 1) []).map u8)] (fun _ h => (h.sub (by first | exact List.nil_sublist _ | exact List.Sublist.refl _ | repeat (first | exact List.Sublist.refl _ | exact List.nil_sublist _ | apply List.Sublist.cons_cons | apply List.Sublist.cons)))) (by kernel_rfl) H80 ?_
        clear H80; intro wx81 H81
        refine htake 0 rfl (by kernel_rfl) (y_loadAB rfl z_agg23 z_size23 rfl (by repeat (first | exact List.Mem.head _ | apply List.Mem.tail)) (take_all (by rw [List.length_map, hlast])) (by rw [List.length_map, hlast])) rfl rfl rfl (fun _ h => (h.sub (by first | exact List.nil_sublist _ | exact List.Sublist.refl _ | repeat (first | exact List.Sublist.refl _ | exact List.nil_sublist _ | apply List.Sublist.cons_cons | apply List.Sublist.cons)))) H81 ?_
        clear H81; intro a82 H82
        refine htake 3 rfl (by kernel_rfl) (y_loadAB rfl z_agg23 z_size23 rfl (by repeat (first | exact List.Mem.head _ | apply List.Mem.tail)) (show _ = (Merk.back (Sha.sum (0 :: s)) (Merk.path (n - Merk.half n) (i - Merk.half n)) (p.take (p.length - 1)).reverse).1.map u8 by rw [spl_all (by rw [List.length_map, hbl]; rfl)]; exact take_all (by rw [List.length_map, hbl])) (by rw [List.length_map, hbl])) rfl rfl rfl (fun _ h => (h.sub (by first | exact List.nil_sublist _ | exact List.Sublist.refl _ | repeat (first | exact List.Sublist.refl _ | exact List.nil_sublist _ | apply List.Sublist.cons_cons | apply List.Sublist.cons)))) H82 ?_
        clear H82; intro a83 H83
        refine htake 7 rfl (by kernel_rfl) (y_move rfl rfl) rfl rfl rfl (fun _ h => (h.sub (by first | exact List.nil_sublist _ | exact List.Sublist.refl _ | repeat (first | exact List.Sublist.refl _ | exact List.nil_sublist _ | apply List.Sublist.cons_cons | apply List.Sublist.cons)))) H83 ?_
        clear H83; intro a84 H84
        refine hgo 1 rfl (by kernel_rfl) ?_
        refine st_callg rfl z_call34 rfl rfl rfl rfl H84 (rbytes _ hlast _) ?_
        clear H84; intro a85 wx85 H85
        refine hfin (H85.sep.sub (by first | exact List.nil_sublist _ | exact List.Sublist.refl _ | repeat (first | exact List.Sublist.refl _ | exact List.nil_sublist _ | apply List.Sublist.cons_cons | apply List.Sublist.cons))) ?_
        refine htake 2 rfl (by kernel_rfl) (y_sadd rfl rfl rfl (by simp only [List.length_append, List.length_cons, List.length_nil, hbl, hlast]; omega)) rfl rfl rfl (fun _ h => (h.sub (by first | exact List.nil_sublist _ | exact List.Sublist.refl _ | repeat (first | exact List.Sublist.refl _ | exact List.nil_sublist _ | apply List.Sublist.cons_cons | apply List.Sublist.cons)))) H85 ?_
        clear H85; intro a86 H86
        refine hgo 4 rfl (by kernel_rfl) ?_
        refine st_callg rfl z_call34 rfl rfl rfl rfl H86 (rbytes _ (hbl _ _) _) ?_
        clear H86; intro a87 wx87 H87
        refine hfin (H87.sep.sub (by first | exact List.nil_sublist _ | exact List.Sublist.refl _ | repeat (first | exact List.Sublist.refl _ | exact List.nil_sublist _ | apply List.Sublist.cons_cons | apply List.Sublist.cons))) ?_
        refine htake 5 rfl (by kernel_rfl) (y_sadd rfl rfl rfl (by simp only [List.length_append, List.length_cons, List.length_nil, hbl, hlast]; omega)) rfl rfl rfl (fun _ h => (h.sub (by first | exact List.nil_sublist _ | exact List.Sublist.refl _ | repeat (first | exact List.Sublist.refl _ | exact List.nil_sublist _ | apply List.Sublist.cons_cons | apply List.Sublist.cons)))) H87 ?_
        clear H87; intro a88 H88
        refine hgo 6 rfl (by kernel_rfl) ?_
        refine st_callg rfl z_call22 rfl rfl rfl rfl H88 (rsum _ (by simp only [List.length_append, List.length_cons, List.length_nil, hbl, hlast]; omega) _) ?_
        clear H88; intro a89 wx89 H89
        refine hfin (H89.sep.sub (by first | exact List.nil_sublist _ | exact List.Sublist.refl _ | repeat (first | exact List.Sublist.refl _ | exact List.nil_sublist _ | apply List.Sublist.cons_cons | apply List.Sublist.cons))) ?_
        refine hgo 8 rfl (by kernel_rfl) ?_
        refine st_store (vs := _) rfl z_size23 rfl rfl (show _ = List.map u8 _ from rfl) (one_u8 _) (by rw [List.length_map, Sha.sum_length]) (by repeat (first | exact Upd.head _ _ _ | apply Upd.tail)) (by decide) rfl rfl H89 ?_
        clear H89; intro wx90 H90
        refine hfin (H90.sep.sub (by first | exact List.nil_sublist _ | exact List.Sublist.refl _ | repeat (first | exact List.Sublist.refl _ | exact List.nil_sublist _ | apply List.Sublist.cons_cons | apply List.Sublist.cons))) ?_
        refine htake 9 rfl (by kernel_rfl) (y_assign rfl rfl) rfl rfl rfl (fun _ h => (h.sub (by first | exact List.nil_sublist _ | exact List.Sublist.refl _ | repeat (first | exact List.Sublist.refl _ | exact List.nil_sublist _ | apply List.Sublist.cons_cons | apply List.Sublist.cons)))) H90 ?_
        clear H90; intro a91 H91
        refine hdone (by kernel_rfl) ?_
        refine then_n ?_
        refine wp_ret ?_
        -- return 4
        refine retct rfl H91 rfl z_agg23 z_size23 (by repeat (first | exact List.Mem.head _ | apply List.Mem.tail)) (by rw [spl_all (by rw [List.length_map, Sha.sum_length]; rfl), List.length_map, Sha.sum_length]) rfl ?_
        refine ⟨_, [], rfl, ⟨?_, rfl⟩, H91.sep.sub (List.nil_sublist _)⟩
        rw [spl_all (by rw [List.length_map, Sha.sum_length]; rfl)]
        rw [hrl, hpt, Merk.back]
        first | rfl | simp
theorem rback : ∀ (n i : Nat) (s : List UInt8) (p : List (List UInt8)) (A : Option Addr) (m c : Nat) (w : World),  m = p.length → 1 ≤ n → n ≤ 9223372036854775807 → i < n → s.length ≤ 140737488351232 → H32 p → p.length ≤ 9223372036854775807 → p.length ≤ c → Rd w A (hc p) → Calls Tryd.prog 43 #[.int .i64 (n : Int), .int .i64 (i : Int), str s, .slice A m c] w (Gives (.tuple #[.agg ((Merk.back (Sha.sum (0 :: s)) (Merk.path n i) p.reverse).1.map u8).toArray, .bool (Merk.back (Sha.sum (0 :: s)) (Merk.path n i) p.reverse).2]) [] w) := by
  have key : ∀ (N n i : Nat) (s : List UInt8) (p : List (List UInt8)) (A : Option Addr) (m c : Nat) (w : World), n = N → m = p.length → 1 ≤ n → n ≤ 9223372036854775807 → i < n → s.length ≤ 140737488351232 → H32 p → p.length ≤ 9223372036854775807 → p.length ≤ c → Rd w A (hc p) → Calls Tryd.prog 43 #[.int .i64 (n : Int), .int .i64 (i : Int), str s, .slice A m c] w (Gives (.tuple #[.agg ((Merk.back (Sha.sum (0 :: s)) (Merk.path n i) p.reverse).1.map u8).toArray, .bool (Merk.back (Sha.sum (0 :: s)) (Merk.path n i) p.reverse).2]) [] w) := by
    intro N
    induction N using Nat.strongRecOn with
    | _ N ih =>
      intro n i s p A m c w hN hm h1 h2 h3 h4 h5 h6 h7 hR
      subst hm
      exact rbackS N (fun n' i' s' p' A' m' c' w' g1 g2 g3 g4 g5 g6 g7 g8 g9 g10 => ih n' (by omega) n' i' s' p' A' m' c' w' rfl g2 g3 g4 g5 g6 g7 g8 g9 g10) n i hN h1 h2 h3 s h4 p h5 h6 A c h7 hR
  exact fun n i s p A m c w => key n n i s p A m c w rfl
set_option maxRecDepth 100000 in
set_option maxHeartbeats 2000000 in
theorem rproves (r : List UInt8) (hr : r.length = 32) (n i : Int) (hn : n ≤ 9223372036854775807) (hi0 : -9223372036854775808 ≤ i) (s : List UInt8) (hs : s.length ≤ 140737488351232) (p : List (List UInt8)) (hp : H32 p) (hpl : p.length ≤ 9223372036854775807) (A : Option Addr) (c : Nat) (hpc : p.length ≤ c) {w : World} (hR : Rd w A (hc p)) : Calls Tryd.prog 24 #[.agg (r.map u8).toArray, .int .i64 n, .int .i64 i, str s, .slice A p.length c] w (Gives (.bool (Merk.proves r n i s p)) [] w) := by
  refine enterL (args := [.agg (r.map u8).toArray, .int .i64 n, .int .i64 i, str s, .slice A p.length c]) Tryd.func24 rfl rfl (l := []) (Sep.refl _) ?_
  intro a0 H0
  refine wp_seq ?_
  refine reg ?_
  refine st_box rfl rfl rfl rfl rfl rfl H0 ?_
  clear H0; intro b1 a1 wx1 H1
  refine plain (y_assign rfl rfl) rfl rfl rfl H1 ?_
  clear H1; intro a2 H2
  refine fin ?_
  refine then_n ?_
  refine wp_seq ?_
  refine wp_seq ?_
  refine reg ?_
  refine plain (y_move rfl rfl) rfl rfl rfl H2 ?_
  clear H2; intro a3 H3
  refine plain (y_lss rfl rfl rfl) rfl rfl rfl H3 ?_
  clear H3; intro a4 H4
  refine plain (y_move rfl rfl) rfl rfl rfl H4 ?_
  clear H4; intro a5 H5
  refine part_d (d := 15) H5 rfl (fun hg6 => ?_) (fun hg6 => ?_)
  · first
    | fail
    | skip
      clear H5; intro H7
      refine skip rfl rfl rfl H7 ?_
      clear H7; intro a8 H8
      refine skip rfl rfl rfl H8 ?_
      clear H8; intro a9 H9
      refine skip rfl rfl rfl H9 ?_
      clear H9; intro a10 H10
      refine plain (y_pick_t rfl rfl rfl) rfl rfl rfl H10 ?_
      clear H10; intro a11 H11
      refine fin ?_
      refine then_n ?_
      refine cnd_t H11 rfl ?_
      refine wp_seq ?_
      refine reg ?_
      refine plain (y_assign rfl rfl) rfl rfl rfl H11 ?_
      clear H11; intro a13 H13
      refine fin ?_
      refine then_n ?_
      refine wp_ret ?_
      refine then_r ?_
      -- return 1
      refine ret1 rfl H13 rfl ?_
      exact ⟨_, [], rfl, ⟨by rw [Merk.proves_out _ _ _ _ _ (by omega)], rfl⟩, H13.sep.sub (List.nil_sublist _)⟩
  · first
    | fail
    | skip
      clear H5; intro H14
      refine plain (y_move rfl rfl) rfl rfl rfl H14 ?_
      clear H14; intro a15 H15
      refine plain (y_move rfl rfl) rfl rfl rfl H15 ?_
      clear H15; intro a16 H16
      refine plain (y_geq rfl rfl rfl) rfl rfl rfl H16 ?_
      clear H16; intro a17 H17
      refine plain (y_pick_f rfl rfl rfl) rfl rfl rfl H17 ?_
      clear H17; intro a18 H18
      refine fin ?_
      refine then_n ?_
      refine cnd_d H18 rfl (fun hc19 => ?_) (fun hc19 => ?_) -- cond 2
      · skip
        refine wp_seq ?_
        refine reg ?_
        refine plain (y_assign rfl rfl) rfl rfl rfl H18 ?_
        clear H18; intro a20 H20
        refine fin ?_
        refine then_n ?_
        refine wp_ret ?_
        refine then_r ?_
        -- return 2
        refine ret1 rfl H20 rfl ?_
        exact ⟨_, [], rfl, ⟨by rw [Merk.proves_out _ _ _ _ _ (by omega)], rfl⟩, H20.sep.sub (List.nil_sublist _)⟩
      · skip
        obtain ⟨N, rfl⟩ := Int.eq_ofNat_of_zero_le (show 0 ≤ n by omega)
        obtain ⟨I, rfl⟩ := Int.eq_ofNat_of_zero_le (show 0 ≤ i by omega)
        have hbl := Merk.back_len (h0 := Sha.sum (0 :: s)) (Sha.sum_length _) (Merk.path N I) p.reverse
        refine wp_skip ?_
        refine then_n ?_
        refine wp_seq ?_
        refine reg ?_
        refine plain (y_move rfl rfl) rfl rfl rfl H18 ?_
        clear H18; intro a21 H21
        refine plain (y_move rfl rfl) rfl rfl rfl H21 ?_
        clear H21; intro a22 H22
        refine plain (y_move rfl rfl) rfl rfl rfl H22 ?_
        clear H22; intro a23 H23
        refine plain (y_move rfl rfl) rfl rfl rfl H23 ?_
        clear H23; intro a24 H24
        refine st_callg rfl z_call43 rfl rfl rfl rfl H24 (rback N I s p A _ c _ rfl (by omega) (by omega) (by omega) hs hp hpl hpc (Rd.frm hR H24.sep.frm (by simp))) ?_
        clear H24; intro a25 wx25 H25
        refine plain (y_move rfl rfl) rfl rfl rfl H25 ?_
        clear H25; intro a26 H26
        refine plain (y_extract rfl rfl rfl) rfl rfl rfl H26 ?_
        clear H26; intro a27 H27
        refine plain (y_extract rfl rfl rfl) rfl rfl rfl H27 ?_
        clear H27; intro a28 H28
        refine st_alloc rfl z_zero23 rfl rfl rfl H28 ?_
        clear H28; intro b29 a29 wx29 H29
        refine st_store (vs := _) rfl z_size23 rfl rfl (show _ = List.map u8 _ from rfl) (one_u8 _) (by rw [List.length_map, hbl]) (by repeat (first | exact Upd.head _ _ _ | apply Upd.tail)) (by decide) rfl rfl H29 ?_
        clear H29; intro wx30 H30
        refine plain (y_assign rfl rfl) rfl rfl rfl H30 ?_
        clear H30; intro a31 H31
        refine fin ?_
        refine then_n ?_
        refine wp_seq ?_
        refine reg ?_
        rw [spl_all (by rw [List.length_map, hbl]; rfl)] at H31
        refine plain (y_move rfl rfl) rfl rfl rfl H31 ?_
        clear H31; intro a32 H32
        refine plain (y_move rfl rfl) rfl rfl rfl H32 ?_
        clear H32; intro a33 H33
        refine Sx.part (d := 29) H33 rfl (fun hg34 => ?_) (fun hg34 => ?_)
        · first
          | fail
          | skip
            clear H33; intro H35
            have hk := hg34
            refine plain (y_loadAB rfl z_agg23 z_size23 rfl (by repeat (first | exact List.Mem.head _ | apply List.Mem.tail)) (take_all (by rw [List.length_map, hbl])) (by rw [List.length_map, hbl])) rfl rfl rfl H35 ?_
            clear H35; intro a36 H36
            refine plain (y_loadAB rfl z_agg23 z_size23 rfl (by repeat (first | exact List.Mem.head _ | apply List.Mem.tail)) (take_all (cs := r.map u8) (by rw [List.length_map, hr])) (by rw [List.length_map, hr])) rfl rfl rfl H36 ?_
            clear H36; intro a37 H37
            refine plain (y_heql rfl Tryd.eqGuardType23 Tryd.underlying23 Tryd.underlying5 z_size5 rfl rfl hbl hr) rfl rfl rfl H37 ?_
            clear H37; intro a38 H38
            refine plain (y_pick_t rfl rfl rfl) rfl rfl rfl H38 ?_
            clear H38; intro a39 H39
            refine plain (y_assign rfl rfl) rfl rfl rfl H39 ?_
            clear H39; intro a40 H40
            refine fin ?_
            refine then_n ?_
            refine wp_ret ?_
            -- return 3
            refine ret1 rfl H40 rfl ?_
            exact ⟨_, [], rfl, ⟨by rw [← Merk.back_proves _ _ _ _ _ (by omega), hk]; rfl, rfl⟩, H40.sep.sub (List.nil_sublist _)⟩
        · first
          | fail
          | skip
            clear H33; intro H41
            have hk := hg34
            refine skip rfl rfl rfl H41 ?_
            clear H41; intro a42 H42
            refine skip rfl rfl rfl H42 ?_
            clear H42; intro a43 H43
            refine skip rfl rfl rfl H43 ?_
            clear H43; intro a44 H44
            refine plain (y_pick_f rfl rfl rfl) rfl rfl rfl H44 ?_
            clear H44; intro a45 H45
            refine plain (y_assign rfl rfl) rfl rfl rfl H45 ?_
            clear H45; intro a46 H46
            refine fin ?_
            refine then_n ?_
            refine wp_ret ?_
            -- return 4
            refine ret1 rfl H46 rfl ?_
            exact ⟨_, [], rfl, ⟨by rw [← Merk.back_proves _ _ _ _ _ (by omega), hk]; rfl, rfl⟩, H46.sep.sub (List.nil_sublist _)⟩

end Go.Proofs.YtbadncpjbdfinaaDoor.D_RProves
