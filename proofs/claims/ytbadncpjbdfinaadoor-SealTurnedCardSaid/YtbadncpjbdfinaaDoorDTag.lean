/- Part of a proof about given Go functions: contracts of functions, or plain laws. -/
import Derived.Test.YtbadncpjbdfinaaDoorSxW
import Derived.Test.YtbadncpjbdfinaaDoorSxI
import Derived.Test.YtbadncpjbdfinaaDoorSha
import Derived.Test.YtbadncpjbdfinaaDoorProg
import Derived.Test.YtbadncpjbdfinaaDoorDBlock
import Derived.Test.YtbadncpjbdfinaaDoorDSum
import Derived.Test.YtbadncpjbdfinaaDoorDRef
import Derived.Test.YtbadncpjbdfinaaDoorDRSum
import Derived.Test.YtbadncpjbdfinaaDoorDLeaf
import Derived.Test.YtbadncpjbdfinaaDoorShaAbc
import Derived.Test.YtbadncpjbdfinaaDoorSxX
import Derived.Test.YtbadncpjbdfinaaDoorSxY
import Derived.Test.YtbadncpjbdfinaaDoorSeal
import Derived.Test.YtbadncpjbdfinaaDoorShaKey
import Derived.Test.YtbadncpjbdfinaaDoorOct2
import Derived.Test.YtbadncpjbdfinaaDoorDNum
import Derived.Test.YtbadncpjbdfinaaDoorDKey
set_option linter.unusedVariables false
set_option linter.unusedSimpArgs false
namespace Go.Proofs.YtbadncpjbdfinaaDoor.D_Tag
open Go.Sx Go.RowKit Go.Proofs.YtbadncpjbdfinaaDoor.D_Block Go.Proofs.YtbadncpjbdfinaaDoor.D_Sum Go.Proofs.YtbadncpjbdfinaaDoor.D_Ref Go.Proofs.YtbadncpjbdfinaaDoor.D_RSum Go.Proofs.YtbadncpjbdfinaaDoor.D_Leaf Go.Proofs.YtbadncpjbdfinaaDoor.D_Num Go.Proofs.YtbadncpjbdfinaaDoor.D_Key

theorem z_zero23 : zeroL Tryd.prog 23 = some (List.replicate 32 (.int .u8 0)) := by kernel_rfl
theorem z_call14 : callB Tryd.prog 14 = true := by kernel_rfl
theorem z_size23 : sizeB Tryd.prog 23 = some 32 := by kernel_rfl
theorem z_size5 : sizeB Tryd.prog 5 = some 1 := by kernel_rfl
theorem z_agg23 : aggB Tryd.prog 23 = some true := by kernel_rfl
theorem z_call34 : callB Tryd.prog 34 = true := by kernel_rfl
theorem z_zero5 : zeroL Tryd.prog 5 = some ([.int .u8 0]) := by kernel_rfl
theorem z_call22 : callB Tryd.prog 22 = true := by kernel_rfl

set_option maxRecDepth 100000 in
set_option maxHeartbeats 2000000 in
theorem rtag (who dom : Int) (hw : -9223372036854775808 ≤ who ∧ who ≤ 9223372036854775807) (hd : -9223372036854775808 ≤ dom ∧ dom ≤ 9223372036854775807) (body : List UInt8) (hbl : body.length ≤ 140737488351232) (w : World) : Calls Tryd.prog 17 #[.int .i64 who, .int .i64 dom, str body] w (Gives (.tuple #[.agg ((Seal.tag who dom body).1.map u8).toArray, .int .i64 (Seal.tag who dom body).2]) [] w) := by
  refine enterL (args := [.int .i64 who, .int .i64 dom, str body]) Tryd.func17 rfl rfl (l := []) (Sep.refl _) ?_
  intro a0 H0
  refine wp_seq ?_
  refine reg ?_
  refine st_alloc rfl z_zero23 rfl rfl rfl H0 ?_
  clear H0; intro b1 a1 w1 H1
  refine plain (y_assign rfl rfl) rfl rfl rfl H1 ?_
  clear H1; intro a2 H2
  refine fin ?_
  refine then_n ?_
  refine wp_seq ?_
  refine reg ?_
  refine plain (y_move rfl rfl) rfl rfl rfl H2 ?_
  clear H2; intro a3 H3
  refine st_callg rfl z_call14 rfl rfl rfl rfl H3 (rkey who hw _) ?_
  clear H3; intro a4 w4 H4
  refine plain (y_move rfl rfl) rfl rfl rfl H4 ?_
  clear H4; intro a5 H5
  refine plain (y_extract rfl rfl rfl) rfl rfl rfl H5 ?_
  clear H5; intro a6 H6
  refine plain (y_extract rfl rfl rfl) rfl rfl rfl H6 ?_
  clear H6; intro a7 H7
  refine st_alloc rfl z_zero23 rfl rfl rfl H7 ?_
  clear H7; intro b8 a8 w8 H8
  refine st_store (vs := _) rfl z_size23 rfl rfl (show _ = List.map u8 _ from rfl) (one_u8 _) (by rw [List.length_map, Seal.key_len]) (by repeat (first | exact Upd.head _ _ _ | apply Upd.tail)) (by decide) rfl rfl H8 ?_
  clear H8; intro w9 H9
  refine plain (y_assign rfl rfl) rfl rfl rfl H9 ?_
  clear H9; intro a10 H10
  refine fin ?_
  refine then_n ?_
  refine wp_seq ?_
  refine wp_seq ?_
  refine reg ?_
  rw [spl_all (by rw [List.length_map, Seal.key_len]; rfl)] at H10
  refine plain (y_move rfl rfl) rfl rfl rfl H10 ?_
  clear H10; intro a11 H11
  refine plain (y_neq rfl rfl rfl) rfl rfl rfl H11 ?_
  clear H11; intro a12 H12
  refine fin ?_
  refine then_n ?_
  refine cnd_d H12 rfl (fun hc13 => ?_) (fun hc13 => ?_) -- cond 1
  · skip
    refine wp_seq ?_
    refine reg ?_
    refine plain (y_buildA rfl z_zero23 Tryd.underlying23 z_size5 rfl rfl) rfl rfl rfl H12 ?_
    clear H12; intro a14 H14
    refine plain (y_move rfl rfl) rfl rfl rfl H14 ?_
    clear H14; intro a15 H15
    refine st_store (vs := _) rfl z_size23 rfl rfl rfl rfl rfl (by repeat (first | exact Upd.head _ _ _ | apply Upd.tail)) (by decide) rfl rfl H15 ?_
    clear H15; intro w16 H16
    refine plain (y_assign rfl rfl) rfl rfl rfl H16 ?_
    clear H16; intro a17 H17
    refine fin ?_
    refine then_n ?_
    refine wp_ret ?_
    refine then_r ?_
    -- return 1
    refine retct rfl H17 rfl z_agg23 z_size23 (by repeat (first | exact List.Mem.head _ | apply List.Mem.tail)) rfl rfl ?_
    refine ⟨_, [], rfl, ⟨?_, rfl⟩, H17.sep.sub (List.nil_sublist _)⟩
    rw [Seal.tag_err (by omega)]
    rfl
  · skip
    refine wp_skip ?_
    refine then_n ?_
    refine wp_seq ?_
    refine wp_seq ?_
    refine reg ?_
    refine plain (y_move rfl rfl) rfl rfl rfl H12 ?_
    clear H12; intro a18 H18
    refine plain (y_lss rfl rfl rfl) rfl rfl rfl H18 ?_
    clear H18; intro a19 H19
    refine plain (y_move rfl rfl) rfl rfl rfl H19 ?_
    clear H19; intro a20 H20
    refine part_d (d := 21) H20 rfl (fun hg21 => ?_) (fun hg21 => ?_)
    · first
      | fail
      | skip
        clear H20; intro H22
        refine skip rfl rfl rfl H22 ?_
        clear H22; intro a23 H23
        refine skip rfl rfl rfl H23 ?_
        clear H23; intro a24 H24
        refine plain (y_pick_t rfl rfl rfl) rfl rfl rfl H24 ?_
        clear H24; intro a25 H25
        refine fin ?_
        refine then_n ?_
        refine cnd_t H25 rfl ?_
        refine wp_seq ?_
        refine reg ?_
        refine plain (y_buildA rfl z_zero23 Tryd.underlying23 z_size5 rfl rfl) rfl rfl rfl H25 ?_
        clear H25; intro a27 H27
        refine st_store (vs := _) rfl z_size23 rfl rfl rfl rfl rfl (by repeat (first | exact Upd.head _ _ _ | apply Upd.tail)) (by decide) rfl rfl H27 ?_
        clear H27; intro w28 H28
        refine plain (y_assign rfl rfl) rfl rfl rfl H28 ?_
        clear H28; intro a29 H29
        refine fin ?_
        refine then_n ?_
        refine wp_ret ?_
        refine then_r ?_
        -- return 2
        refine retct rfl H29 rfl z_agg23 z_size23 (by repeat (first | exact List.Mem.head _ | apply List.Mem.tail)) rfl rfl ?_
        refine ⟨_, [], rfl, ⟨?_, rfl⟩, H29.sep.sub (List.nil_sublist _)⟩
        rw [Seal.tag_dom (by omega) (by omega)]
        rfl
    · first
      | fail
      | skip
        clear H20; intro H30
        refine plain (y_move rfl rfl) rfl rfl rfl H30 ?_
        clear H30; intro a31 H31
        refine plain (y_gtr rfl rfl rfl) rfl rfl rfl H31 ?_
        clear H31; intro a32 H32
        refine plain (y_pick_f rfl rfl rfl) rfl rfl rfl H32 ?_
        clear H32; intro a33 H33
        refine fin ?_
        refine then_n ?_
        refine cnd_d H33 rfl (fun hc34 => ?_) (fun hc34 => ?_) -- cond 3
        · skip
          refine wp_seq ?_
          refine reg ?_
          refine plain (y_buildA rfl z_zero23 Tryd.underlying23 z_size5 rfl rfl) rfl rfl rfl H33 ?_
          clear H33; intro a35 H35
          refine st_store (vs := _) rfl z_size23 rfl rfl rfl rfl rfl (by repeat (first | exact Upd.head _ _ _ | apply Upd.tail)) (by decide) rfl rfl H35 ?_
          clear H35; intro w36 H36
          refine plain (y_assign rfl rfl) rfl rfl rfl H36 ?_
          clear H36; intro a37 H37
          refine fin ?_
          refine then_n ?_
          refine wp_ret ?_
          refine then_r ?_
          -- return 3
          refine retct rfl H37 rfl z_agg23 z_size23 (by repeat (first | exact List.Mem.head _ | apply List.Mem.tail)) rfl rfl ?_
          refine ⟨_, [], rfl, ⟨?_, rfl⟩, H37.sep.sub (List.nil_sublist _)⟩
          rw [Seal.tag_dom (by omega) (by omega)]
          rfl
        · skip
          refine wp_skip ?_
          refine then_n ?_
          refine wp_seq ?_
          refine hreg [It.blk b8 23 ((Seal.key who).1.map u8)] (fun _ h => (h.sub (by first | exact List.nil_sublist _ | exact List.Sublist.refl _ | repeat (first | exact List.Sublist.refl _ | exact List.nil_sublist _ | apply List.Sublist.cons_cons | apply List.Sublist.cons)))) (by kernel_rfl) H33 ?_
          clear H33; intro w38 H38
          refine htake 0 rfl (by kernel_rfl) (y_loadAB rfl z_agg23 z_size23 rfl (by repeat (first | exact List.Mem.head _ | apply List.Mem.tail)) (take_all (cs := (Seal.key who).1.map u8) (by rw [List.length_map, Seal.key_len])) (by rw [List.length_map, Seal.key_len])) rfl rfl rfl (fun _ h => (h.sub (by first | exact List.nil_sublist _ | exact List.Sublist.refl _ | repeat (first | exact List.Sublist.refl _ | exact List.nil_sublist _ | apply List.Sublist.cons_cons | apply List.Sublist.cons)))) H38 ?_
          clear H38; intro a39 H39
          refine htake 2 rfl (by kernel_rfl) (y_move rfl rfl) rfl rfl rfl (fun _ h => (h.sub (by first | exact List.nil_sublist _ | exact List.Sublist.refl _ | repeat (first | exact List.Sublist.refl _ | exact List.nil_sublist _ | apply List.Sublist.cons_cons | apply List.Sublist.cons)))) H39 ?_
          clear H39; intro a40 H40
          refine htake 3 rfl (by kernel_rfl) (y_conv rfl Tryd.underlying3 Tryd.underlying5 rfl (show IntKind.u8.wrap dom = ((UInt8.ofNat dom.toNat).toNat : Int) by rw [wu8_mod, UInt8.toNat_ofNat']; omega)) rfl rfl rfl (fun _ h => (h.sub (by first | exact List.nil_sublist _ | exact List.Sublist.refl _ | repeat (first | exact List.Sublist.refl _ | exact List.nil_sublist _ | apply List.Sublist.cons_cons | apply List.Sublist.cons)))) H40 ?_
          clear H40; intro a41 H41
          refine htake 7 rfl (by kernel_rfl) (y_move rfl rfl) rfl rfl rfl (fun _ h => (h.sub (by first | exact List.nil_sublist _ | exact List.Sublist.refl _ | repeat (first | exact List.Sublist.refl _ | exact List.nil_sublist _ | apply List.Sublist.cons_cons | apply List.Sublist.cons)))) H41 ?_
          clear H41; intro a42 H42
          refine hgo2 1 4 rfl rfl (by kernel_rfl) ?_ ?_
          · skip
            refine st_callg rfl z_call34 rfl rfl rfl rfl H42 (rbytes _ (Seal.key_len who) _) ?_
            clear H42; intro a43 w43 H43
            refine hfin (H43.sep.sub (by first | exact List.nil_sublist _ | exact List.Sublist.refl _ | repeat (first | exact List.Sublist.refl _ | exact List.nil_sublist _ | apply List.Sublist.cons_cons | apply List.Sublist.cons))) ?_
            refine hgo 4 rfl (by kernel_rfl) ?_
            refine st_buildSlice1 (xs := [.tmp 29]) rfl Tryd.underlying44 z_size5 z_zero5 rfl rfl rfl rfl rfl rfl rfl rfl rfl H43 ?_
            clear H43; intro b44 a44 w44 H44
            refine hfin (H44.sep.sub (by first | exact List.nil_sublist _ | exact List.Sublist.refl _ | repeat (first | exact List.Sublist.refl _ | exact List.nil_sublist _ | apply List.Sublist.cons_cons | apply List.Sublist.cons))) ?_
            refine hgo 5 rfl (by kernel_rfl) ?_
            refine plain (y_bstr (p := [UInt8.ofNat dom.toNat]) rfl Tryd.underlying44 Tryd.underlying5 Tryd.underlying9 rfl (by simp) (rd_blkA (by repeat (first | exact List.Mem.head _ | apply List.Mem.tail)))) rfl rfl rfl H44 ?_
            clear H44; intro a45 H45
            refine hfin (H45.sep.sub (by first | exact List.nil_sublist _ | exact List.Sublist.refl _ | repeat (first | exact List.Sublist.refl _ | exact List.nil_sublist _ | apply List.Sublist.cons_cons | apply List.Sublist.cons))) ?_
            refine htake 6 rfl (by kernel_rfl) (y_sadd rfl rfl rfl (by simp only [List.length_cons, List.length_nil, Seal.key_len]; omega)) rfl rfl rfl (fun _ h => (h.sub (by first | exact List.nil_sublist _ | exact List.Sublist.refl _ | repeat (first | exact List.Sublist.refl _ | exact List.nil_sublist _ | apply List.Sublist.cons_cons | apply List.Sublist.cons)))) H45 ?_
            clear H45; intro a46 H46
            refine htake 8 rfl (by kernel_rfl) (y_sadd rfl rfl rfl (by simp only [List.length_append, List.length_cons, List.length_nil, Seal.key_len]; omega)) rfl rfl rfl (fun _ h => (h.sub (by first | exact List.nil_sublist _ | exact List.Sublist.refl _ | repeat (first | exact List.Sublist.refl _ | exact List.nil_sublist _ | apply List.Sublist.cons_cons | apply List.Sublist.cons)))) H46 ?_
            clear H46; intro a47 H47
            refine hgo 9 rfl (by kernel_rfl) ?_
            refine st_callg rfl z_call22 rfl rfl rfl rfl H47 (rsum _ (by simp only [List.length_append, List.length_cons, List.length_nil, Seal.key_len]; omega) _) ?_
            clear H47; intro a48 w48 H48
            refine hfin (H48.sep.sub (by first | exact List.nil_sublist _ | exact List.Sublist.refl _ | repeat (first | exact List.Sublist.refl _ | exact List.nil_sublist _ | apply List.Sublist.cons_cons | apply List.Sublist.cons))) ?_
            refine hgo 10 rfl (by kernel_rfl) ?_
            refine st_store (vs := _) rfl z_size23 rfl rfl (show _ = List.map u8 _ from rfl) (one_u8 _) (by rw [List.length_map, Sha.sum_length]) (by repeat (first | exact Upd.head _ _ _ | apply Upd.tail)) (by decide) rfl rfl H48 ?_
            clear H48; intro w49 H49
            refine hfin (H49.sep.sub (by first | exact List.nil_sublist _ | exact List.Sublist.refl _ | repeat (first | exact List.Sublist.refl _ | exact List.nil_sublist _ | apply List.Sublist.cons_cons | apply List.Sublist.cons))) ?_
            refine htake 11 rfl (by kernel_rfl) (y_assign rfl rfl) rfl rfl rfl (fun _ h => (h.sub (by first | exact List.nil_sublist _ | exact List.Sublist.refl _ | repeat (first | exact List.Sublist.refl _ | exact List.nil_sublist _ | apply List.Sublist.cons_cons | apply List.Sublist.cons)))) H49 ?_
            clear H49; intro a50 H50
            refine hdone (by kernel_rfl) ?_
            refine then_n ?_
            refine wp_ret ?_
            -- return 4
            refine retct rfl H50 rfl z_agg23 z_size23 (by repeat (first | exact List.Mem.head _ | apply List.Mem.tail)) (by rw [spl_all (by rw [List.length_map, Sha.sum_length]; rfl), List.length_map, Sha.sum_length]) rfl ?_
            refine ⟨_, [], rfl, ⟨?_, rfl⟩, H50.sep.sub (List.nil_sublist _)⟩
            rw [spl_all (by rw [List.length_map, Sha.sum_length]; rfl), Seal.tag_ok (by omega) (by omega)]
            simp only [List.append_assoc]
          · skip
            refine st_buildSlice1 (xs := [.tmp 29]) rfl Tryd.underlying44 z_size5 z_zero5 rfl rfl rfl rfl rfl rfl rfl rfl rfl H42 ?_
            clear H42; intro b51 a51 w51 H51
            refine hfin (H51.sep.sub (by first | exact List.nil_sublist _ | exact List.Sublist.refl _ | repeat (first | exact List.Sublist.refl _ | exact List.nil_sublist _ | apply List.Sublist.cons_cons | apply List.Sublist.cons))) ?_
            refine hgo2 1 5 rfl rfl (by kernel_rfl) ?_ ?_
            · skip
              refine st_callg rfl z_call34 rfl rfl rfl rfl H51 (rbytes _ (Seal.key_len who) _) ?_
              clear H51; intro a52 w52 H52
              refine hfin (H52.sep.sub (by first | exact List.nil_sublist _ | exact List.Sublist.refl _ | repeat (first | exact List.Sublist.refl _ | exact List.nil_sublist _ | apply List.Sublist.cons_cons | apply List.Sublist.cons))) ?_
              refine hgo 5 rfl (by kernel_rfl) ?_
              refine plain (y_bstr (p := [UInt8.ofNat dom.toNat]) rfl Tryd.underlying44 Tryd.underlying5 Tryd.underlying9 rfl (by simp) (rd_blkA (by repeat (first | exact List.Mem.head _ | apply List.Mem.tail)))) rfl rfl rfl H52 ?_
              clear H52; intro a53 H53
              refine hfin (H53.sep.sub (by first | exact List.nil_sublist _ | exact List.Sublist.refl _ | repeat (first | exact List.Sublist.refl _ | exact List.nil_sublist _ | apply List.Sublist.cons_cons | apply List.Sublist.cons))) ?_
              refine htake 6 rfl (by kernel_rfl) (y_sadd rfl rfl rfl (by simp only [List.length_cons, List.length_nil, Seal.key_len]; omega)) rfl rfl rfl (fun _ h => (h.sub (by first | exact List.nil_sublist _ | exact List.Sublist.refl _ | repeat (first | exact List.Sublist.refl _ | exact List.nil_sublist _ | apply List.Sublist.cons_cons | apply List.Sublist.cons)))) H53 ?_
              clear H53; intro a54 H54
              refine htake 8 rfl (by kernel_rfl) (y_sadd rfl rfl rfl (by simp only [List.length_append, List.length_cons, List.length_nil, Seal.key_len]; omega)) rfl rfl rfl (fun _ h => (h.sub (by first | exact List.nil_sublist _ | exact List.Sublist.refl _ | repeat (first | exact List.Sublist.refl _ | exact List.nil_sublist _ | apply List.Sublist.cons_cons | apply List.Sublist.cons)))) H54 ?_
              clear H54; intro a55 H55
              refine hgo 9 rfl (by kernel_rfl) ?_
              refine st_callg rfl z_call22 rfl rfl rfl rfl H55 (rsum _ (by simp only [List.length_append, List.length_cons, List.length_nil, Seal.key_len]; omega) _) ?_
              clear H55; intro a56 w56 H56
              refine hfin (H56.sep.sub (by first | exact List.nil_sublist _ | exact List.Sublist.refl _ | repeat (first | exact List.Sublist.refl _ | exact List.nil_sublist _ | apply List.Sublist.cons_cons | apply List.Sublist.cons))) ?_
              refine hgo 10 rfl (by kernel_rfl) ?_
              refine st_store (vs := _) rfl z_size23 rfl rfl (show _ = List.map u8 _ from rfl) (one_u8 _) (by rw [List.length_map, Sha.sum_length]) (by repeat (first | exact Upd.head _ _ _ | apply Upd.tail)) (by decide) rfl rfl H56 ?_
              clear H56; intro w57 H57
              refine hfin (H57.sep.sub (by first | exact List.nil_sublist _ | exact List.Sublist.refl _ | repeat (first | exact List.Sublist.refl _ | exact List.nil_sublist _ | apply List.Sublist.cons_cons | apply List.Sublist.cons))) ?_
              refine htake 11 rfl (by kernel_rfl) (y_assign rfl rfl) rfl rfl rfl (fun _ h => (h.sub (by first | exact List.nil_sublist _ | exact List.Sublist.refl _ | repeat (first | exact List.Sublist.refl _ | exact List.nil_sublist _ | apply List.Sublist.cons_cons | apply List.Sublist.cons)))) H57 ?_
              clear H57; intro a58 H58
              refine hdone (by kernel_rfl) ?_
              refine then_n ?_
              refine wp_ret ?_
              -- return 5
              refine retct rfl H58 rfl z_agg23 z_size23 (by repeat (first | exact List.Mem.head _ | apply List.Mem.tail)) (by rw [spl_all (by rw [List.length_map, Sha.sum_length]; rfl), List.length_map, Sha.sum_length]) rfl ?_
              refine ⟨_, [], rfl, ⟨?_, rfl⟩, H58.sep.sub (List.nil_sublist _)⟩
              rw [spl_all (by rw [List.length_map, Sha.sum_length]; rfl), Seal.tag_ok (by omega) (by omega)]
              simp only [List.append_assoc]
            · skip
              refine plain (y_bstr (p := [UInt8.ofNat dom.toNat]) rfl Tryd.underlying44 Tryd.underlying5 Tryd.underlying9 rfl (by simp) (rd_blkA (by repeat (first | exact List.Mem.head _ | apply List.Mem.tail)))) rfl rfl rfl H51 ?_
              clear H51; intro a59 H59
              refine hfin (H59.sep.sub (by first | exact List.nil_sublist _ | exact List.Sublist.refl _ | repeat (first | exact List.Sublist.refl _ | exact List.nil_sublist _ | apply List.Sublist.cons_cons | apply List.Sublist.cons))) ?_
              refine hgo 1 rfl (by kernel_rfl) ?_
              refine st_callg rfl z_call34 rfl rfl rfl rfl H59 (rbytes _ (Seal.key_len who) _) ?_
              clear H59; intro a60 w60 H60
              refine hfin (H60.sep.sub (by first | exact List.nil_sublist _ | exact List.Sublist.refl _ | repeat (first | exact List.Sublist.refl _ | exact List.nil_sublist _ | apply List.Sublist.cons_cons | apply List.Sublist.cons))) ?_
              refine htake 6 rfl (by kernel_rfl) (y_sadd rfl rfl rfl (by simp only [List.length_cons, List.length_nil, Seal.key_len]; omega)) rfl rfl rfl (fun _ h => (h.sub (by first | exact List.nil_sublist _ | exact List.Sublist.refl _ | repeat (first | exact List.Sublist.refl _ | exact List.nil_sublist _ | apply List.Sublist.cons_cons | apply List.Sublist.cons)))) H60 ?_
              clear H60; intro a61 H61
              refine htake 8 rfl (by kernel_rfl) (y_sadd rfl rfl rfl (by simp only [List.length_append, List.length_cons, List.length_nil, Seal.key_len]; omega)) rfl rfl rfl (fun _ h => (h.sub (by first | exact List.nil_sublist _ | exact List.Sublist.refl _ | repeat (first | exact List.Sublist.refl _ | exact List.nil_sublist _ | apply List.Sublist.cons_cons | apply List.Sublist.cons)))) H61 ?_
              clear H61; intro a62 H62
              refine hgo 9 rfl (by kernel_rfl) ?_
              refine st_callg rfl z_call22 rfl rfl rfl rfl H62 (rsum _ (by simp only [List.length_append, List.length_cons, List.length_nil, Seal.key_len]; omega) _) ?_
              clear H62; intro a63 w63 H63
              refine hfin (H63.sep.sub (by first | exact List.nil_sublist _ | exact List.Sublist.refl _ | repeat (first | exact List.Sublist.refl _ | exact List.nil_sublist _ | apply List.Sublist.cons_cons | apply List.Sublist.cons))) ?_
              refine hgo 10 rfl (by kernel_rfl) ?_
              refine st_store (vs := _) rfl z_size23 rfl rfl (show _ = List.map u8 _ from rfl) (one_u8 _) (by rw [List.length_map, Sha.sum_length]) (by repeat (first | exact Upd.head _ _ _ | apply Upd.tail)) (by decide) rfl rfl H63 ?_
              clear H63; intro w64 H64
              refine hfin (H64.sep.sub (by first | exact List.nil_sublist _ | exact List.Sublist.refl _ | repeat (first | exact List.Sublist.refl _ | exact List.nil_sublist _ | apply List.Sublist.cons_cons | apply List.Sublist.cons))) ?_
              refine htake 11 rfl (by kernel_rfl) (y_assign rfl rfl) rfl rfl rfl (fun _ h => (h.sub (by first | exact List.nil_sublist _ | exact List.Sublist.refl _ | repeat (first | exact List.Sublist.refl _ | exact List.nil_sublist _ | apply List.Sublist.cons_cons | apply List.Sublist.cons)))) H64 ?_
              clear H64; intro a65 H65
              refine hdone (by kernel_rfl) ?_
              refine then_n ?_
              refine wp_ret ?_
              -- return 6
              refine retct rfl H65 rfl z_agg23 z_size23 (by repeat (first | exact List.Mem.head _ | apply List.Mem.tail)) (by rw [spl_all (by rw [List.length_map, Sha.sum_length]; rfl), List.length_map, Sha.sum_length]) rfl ?_
              refine ⟨_, [], rfl, ⟨?_, rfl⟩, H65.sep.sub (List.nil_sublist _)⟩
              rw [spl_all (by rw [List.length_map, Sha.sum_length]; rfl), Seal.tag_ok (by omega) (by omega)]
              simp only [List.append_assoc]

end Go.Proofs.YtbadncpjbdfinaaDoor.D_Tag
