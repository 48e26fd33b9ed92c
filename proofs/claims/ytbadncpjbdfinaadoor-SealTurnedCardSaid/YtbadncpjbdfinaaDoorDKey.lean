/- Part of a proof about given Go functions: contracts of functions, or plain laws. -/
import Derived.Test.YtbadncpjbdfinaaDoorSxW
import Derived.Test.YtbadncpjbdfinaaDoorSxI
import Derived.Test.YtbadncpjbdfinaaDoorSha
import Derived.Test.YtbadncpjbdfinaaDoorProg
import Derived.Test.YtbadncpjbdfinaaDoorDBlock
import Derived.Test.YtbadncpjbdfinaaDoorDSum
import Derived.Test.YtbadncpjbdfinaaDoorDRef
import Derived.Test.YtbadncpjbdfinaaDoorDRSum
import Derived.Test.YtbadncpjbdfinaaDoorDLeaf
import Derived.Test.YtbadncpjbdfinaaDoorShaAbc
import Derived.Test.YtbadncpjbdfinaaDoorSxX
import Derived.Test.YtbadncpjbdfinaaDoorSxY
import Derived.Test.YtbadncpjbdfinaaDoorSeal
import Derived.Test.YtbadncpjbdfinaaDoorShaKey
import Derived.Test.YtbadncpjbdfinaaDoorOct2
import Derived.Test.YtbadncpjbdfinaaDoorDNum
set_option linter.unusedVariables false
set_option linter.unusedSimpArgs false
namespace Go.Proofs.YtbadncpjbdfinaaDoor.D_Key
open Go.Sx Go.RowKit Go.Proofs.YtbadncpjbdfinaaDoor.D_Block Go.Proofs.YtbadncpjbdfinaaDoor.D_Sum Go.Proofs.YtbadncpjbdfinaaDoor.D_Ref Go.Proofs.YtbadncpjbdfinaaDoor.D_RSum Go.Proofs.YtbadncpjbdfinaaDoor.D_Leaf Go.Proofs.YtbadncpjbdfinaaDoor.D_Num

theorem z_zero23 : zeroL Tryd.prog 23 = some (List.replicate 32 (.int .u8 0)) := by kernel_rfl
theorem z_size5 : sizeB Tryd.prog 5 = some 1 := by kernel_rfl
theorem z_call21 : callB Tryd.prog 21 = true := by kernel_rfl
theorem z_size23 : sizeB Tryd.prog 23 = some 32 := by kernel_rfl
theorem z_agg23 : aggB Tryd.prog 23 = some true := by kernel_rfl
theorem z_call33 : callB Tryd.prog 33 = true := by kernel_rfl
theorem z_call22 : callB Tryd.prog 22 = true := by kernel_rfl
theorem z_zero5 : zeroL Tryd.prog 5 = some ([.int .u8 0]) := by kernel_rfl
theorem z_call13 : callB Tryd.prog 13 = true := by kernel_rfl
theorem z_call25 : callB Tryd.prog 25 = true := by kernel_rfl

set_option maxRecDepth 100000 in
set_option maxHeartbeats 1000000 in
theorem dchain2 (h : List UInt8) (hh : h.length = 32) (s : List UInt8) (hs : s.length ≤ 140737488354900) {w : World} (hG : Glob 0 Sha.K w) : Calls Tryd.prog 25 #[.agg (h.map u8).toArray, str s] w (Gives (.agg ((Sha.sum (h ++ s)).map u8).toArray) [] w) := by
  refine enterL (args := [.agg (h.map u8).toArray, str s]) Tryd.func25 rfl rfl (l := []) (Sep.refl _) ?_
  intro a0 H0
  refine wp_seq ?_
  refine reg ?_
  refine st_box rfl rfl rfl rfl rfl rfl H0 ?_
  clear H0; intro b1 a1 w1 H1
  refine st_alloc rfl z_zero23 rfl rfl rfl H1 ?_
  clear H1; intro b2 a2 w2 H2
  refine fin ?_
  refine then_n ?_
  refine wp_seq ?_
  refine reg ?_
  refine plain (y_slA_all rfl Tryd.underlying23 z_size5 (by decide) rfl) rfl rfl rfl H2 ?_
  clear H2; intro a3 H3
  refine plain (y_bstr (p := h) rfl Tryd.underlying44 Tryd.underlying5 Tryd.underlying9 rfl hh.symm (rd_blkA (by repeat (first | exact List.Mem.head _ | apply List.Mem.tail)))) rfl rfl rfl H3 ?_
  clear H3; intro a4 H4
  refine plain (y_move rfl rfl) rfl rfl rfl H4 ?_
  clear H4; intro a5 H5
  refine plain (y_sadd rfl rfl rfl (by omega)) rfl rfl rfl H5 ?_
  clear H5; intro a6 H6
  refine st_callg rfl z_call21 rfl rfl rfl rfl H6 (dsum _ (by rw [List.length_append]; omega) (hG.frm H6.sep.frm (by simp))) ?_
  clear H6; intro a7 w7 H7
  refine st_store (vs := _) rfl z_size23 rfl rfl (show _ = List.map u8 _ from rfl) (one_u8 _) (by rw [List.length_map, Sha.sum_length]) (by repeat (first | exact Upd.head _ _ _ | apply Upd.tail)) (by decide) rfl rfl H7 ?_
  clear H7; intro w8 H8
  refine fin ?_
  refine then_n ?_
  refine wp_ret ?_
  -- return 1
  refine retc rfl H8 rfl z_agg23 z_size23 (by repeat (first | exact List.Mem.head _ | apply List.Mem.tail)) (by rw [spl_all (by rw [List.length_map, Sha.sum_length]; rfl), List.length_map, Sha.sum_length]) ?_
  refine ⟨_, [], rfl, ⟨?_, rfl⟩, H8.sep.sub (List.nil_sublist _)⟩
  rw [spl_all (by rw [List.length_map, Sha.sum_length]; rfl)]
  try rfl
set_option maxRecDepth 100000 in
set_option maxHeartbeats 1000000 in
theorem skey (who : Int) (hw : -9223372036854775808 ≤ who ∧ who ≤ 9223372036854775807) {w : World} (hG : Glob 0 Sha.K w) : Calls Tryd.prog 13 #[.int .i64 who] w (Gives (.tuple #[.agg ((Seal.key who).1.map u8).toArray, .int .i64 (Seal.key who).2]) [] w) := by
  refine enterL (args := [.int .i64 who]) Tryd.func13 rfl rfl (l := []) (Sep.refl _) ?_
  intro a0 H0
  refine wp_seq ?_
  refine reg ?_
  refine st_alloc rfl z_zero23 rfl rfl rfl H0 ?_
  clear H0; intro b1 a1 w1 H1
  refine plain (y_assign rfl rfl) rfl rfl rfl H1 ?_
  clear H1; intro a2 H2
  refine fin ?_
  refine then_n ?_
  refine wp_seq ?_
  refine wp_seq ?_
  refine reg ?_
  refine plain (y_move rfl rfl) rfl rfl rfl H2 ?_
  clear H2; intro a3 H3
  refine plain (y_lss rfl rfl rfl) rfl rfl rfl H3 ?_
  clear H3; intro a4 H4
  refine plain (y_move rfl rfl) rfl rfl rfl H4 ?_
  clear H4; intro a5 H5
  refine part_d (d := 8) H5 rfl (fun hg6 => ?_) (fun hg6 => ?_)
  · first
    | fail
    | skip
      clear H5; intro H7
      refine skip rfl rfl rfl H7 ?_
      clear H7; intro a8 H8
      refine skip rfl rfl rfl H8 ?_
      clear H8; intro a9 H9
      refine plain (y_pick_t rfl rfl rfl) rfl rfl rfl H9 ?_
      clear H9; intro a10 H10
      refine fin ?_
      refine then_n ?_
      refine cnd_t H10 rfl ?_
      refine wp_seq ?_
      refine reg ?_
      refine plain (y_buildA rfl z_zero23 Tryd.underlying23 z_size5 rfl rfl) rfl rfl rfl H10 ?_
      clear H10; intro a12 H12
      refine st_store (vs := _) rfl z_size23 rfl rfl rfl rfl rfl (by repeat (first | exact Upd.head _ _ _ | apply Upd.tail)) (by decide) rfl rfl H12 ?_
      clear H12; intro w13 H13
      refine plain (y_assign rfl rfl) rfl rfl rfl H13 ?_
      clear H13; intro a14 H14
      refine fin ?_
      refine then_n ?_
      refine wp_ret ?_
      refine then_r ?_
      -- return 1
      refine retct rfl H14 rfl z_agg23 z_size23 (by repeat (first | exact List.Mem.head _ | apply List.Mem.tail)) rfl rfl ?_
      refine ⟨_, [], rfl, ⟨?_, rfl⟩, H14.sep.sub (List.nil_sublist _)⟩
      rw [Seal.key_bad (by omega)]
      rfl
  · first
    | fail
    | skip
      clear H5; intro H15
      refine plain (y_move rfl rfl) rfl rfl rfl H15 ?_
      clear H15; intro a16 H16
      refine plain (y_gtr rfl rfl rfl) rfl rfl rfl H16 ?_
      clear H16; intro a17 H17
      refine plain (y_pick_f rfl rfl rfl) rfl rfl rfl H17 ?_
      clear H17; intro a18 H18
      refine fin ?_
      refine then_n ?_
      refine cnd_d H18 rfl (fun hc19 => ?_) (fun hc19 => ?_) -- cond 2
      · skip
        refine wp_seq ?_
        refine reg ?_
        refine plain (y_buildA rfl z_zero23 Tryd.underlying23 z_size5 rfl rfl) rfl rfl rfl H18 ?_
        clear H18; intro a20 H20
        refine st_store (vs := _) rfl z_size23 rfl rfl rfl rfl rfl (by repeat (first | exact Upd.head _ _ _ | apply Upd.tail)) (by decide) rfl rfl H20 ?_
        clear H20; intro w21 H21
        refine plain (y_assign rfl rfl) rfl rfl rfl H21 ?_
        clear H21; intro a22 H22
        refine fin ?_
        refine then_n ?_
        refine wp_ret ?_
        refine then_r ?_
        -- return 2
        refine retct rfl H22 rfl z_agg23 z_size23 (by repeat (first | exact List.Mem.head _ | apply List.Mem.tail)) rfl rfl ?_
        refine ⟨_, [], rfl, ⟨?_, rfl⟩, H22.sep.sub (List.nil_sublist _)⟩
        rw [Seal.key_bad (by omega)]
        rfl
      · skip
        refine wp_skip ?_
        refine then_n ?_
        refine wp_seq ?_
        refine reg ?_
        refine plain (y_move rfl rfl) rfl rfl rfl H18 ?_
        clear H18; intro a23 H23
        refine st_callg rfl z_call33 rfl rfl rfl rfl H23 (num _ (by omega) _) ?_
        clear H23; intro a24 w24 H24
        refine plain (y_move rfl rfl) rfl rfl rfl H24 ?_
        clear H24; intro a25 H25
        refine plain (y_extract rfl rfl rfl) rfl rfl rfl H25 ?_
        clear H25; intro a26 H26
        refine plain (y_extract rfl rfl rfl) rfl rfl rfl H26 ?_
        clear H26; intro a27 H27
        refine plain (y_assign rfl rfl) rfl rfl rfl H27 ?_
        clear H27; intro a28 H28
        refine plain (y_assign rfl rfl) rfl rfl rfl H28 ?_
        clear H28; intro a29 H29
        refine fin ?_
        refine then_n ?_
        refine wp_seq ?_
        refine reg ?_
        refine plain (y_move rfl rfl) rfl rfl rfl H29 ?_
        clear H29; intro a30 H30
        refine plain (y_sadd rfl rfl rfl (by have := Oct.number_len (n := who) (by omega); simp only [List.length_cons, List.length_nil]; omega)) rfl rfl rfl H30 ?_
        clear H30; intro a31 H31
        refine st_callg rfl z_call21 rfl rfl rfl rfl H31 (dsum _ (by have := Oct.number_len (n := who) (by omega); simp only [List.length_append, List.length_cons, List.length_nil]; omega) (hG.frm H31.sep.frm (by simp))) ?_
        clear H31; intro a32 w32 H32
        refine st_store (vs := _) rfl z_size23 rfl rfl (show _ = List.map u8 _ from rfl) (one_u8 _) (by rw [List.length_map, Sha.sum_length]) (by repeat (first | exact Upd.head _ _ _ | apply Upd.tail)) (by decide) rfl rfl H32 ?_
        clear H32; intro w33 H33
        refine plain (y_assign rfl rfl) rfl rfl rfl H33 ?_
        clear H33; intro a34 H34
        refine fin ?_
        refine then_n ?_
        refine wp_ret ?_
        -- return 3
        refine retct rfl H34 rfl z_agg23 z_size23 (by repeat (first | exact List.Mem.head _ | apply List.Mem.tail)) (by rw [spl_all (by rw [List.length_map, Sha.sum_length]; rfl), List.length_map, Sha.sum_length]) rfl ?_
        refine ⟨_, [], rfl, ⟨?_, rfl⟩, H34.sep.sub (List.nil_sublist _)⟩
        rw [spl_all (by rw [List.length_map, Sha.sum_length]; rfl), Seal.key_ok (by omega)]
set_option maxRecDepth 100000 in
set_option maxHeartbeats 1000000 in
theorem rkey (who : Int) (hw : -9223372036854775808 ≤ who ∧ who ≤ 9223372036854775807) (w : World) : Calls Tryd.prog 14 #[.int .i64 who] w (Gives (.tuple #[.agg ((Seal.key who).1.map u8).toArray, .int .i64 (Seal.key who).2]) [] w) := by
  refine enterL (args := [.int .i64 who]) Tryd.func14 rfl rfl (l := []) (Sep.refl _) ?_
  intro a0 H0
  refine wp_seq ?_
  refine reg ?_
  refine st_alloc rfl z_zero23 rfl rfl rfl H0 ?_
  clear H0; intro b1 a1 w1 H1
  refine plain (y_assign rfl rfl) rfl rfl rfl H1 ?_
  clear H1; intro a2 H2
  refine fin ?_
  refine then_n ?_
  refine wp_seq ?_
  refine wp_seq ?_
  refine reg ?_
  refine plain (y_move rfl rfl) rfl rfl rfl H2 ?_
  clear H2; intro a3 H3
  refine plain (y_lss rfl rfl rfl) rfl rfl rfl H3 ?_
  clear H3; intro a4 H4
  refine plain (y_move rfl rfl) rfl rfl rfl H4 ?_
  clear H4; intro a5 H5
  refine part_d (d := 6) H5 rfl (fun hg6 => ?_) (fun hg6 => ?_)
  · first
    | fail
    | skip
      clear H5; intro H7
      refine skip rfl rfl rfl H7 ?_
      clear H7; intro a8 H8
      refine skip rfl rfl rfl H8 ?_
      clear H8; intro a9 H9
      refine plain (y_pick_t rfl rfl rfl) rfl rfl rfl H9 ?_
      clear H9; intro a10 H10
      refine fin ?_
      refine then_n ?_
      refine cnd_t H10 rfl ?_
      refine wp_seq ?_
      refine reg ?_
      refine plain (y_buildA rfl z_zero23 Tryd.underlying23 z_size5 rfl rfl) rfl rfl rfl H10 ?_
      clear H10; intro a12 H12
      refine st_store (vs := _) rfl z_size23 rfl rfl rfl rfl rfl (by repeat (first | exact Upd.head _ _ _ | apply Upd.tail)) (by decide) rfl rfl H12 ?_
      clear H12; intro w13 H13
      refine plain (y_assign rfl rfl) rfl rfl rfl H13 ?_
      clear H13; intro a14 H14
      refine fin ?_
      refine then_n ?_
      refine wp_ret ?_
      refine then_r ?_
      -- return 1
      refine retct rfl H14 rfl z_agg23 z_size23 (by repeat (first | exact List.Mem.head _ | apply List.Mem.tail)) rfl rfl ?_
      refine ⟨_, [], rfl, ⟨?_, rfl⟩, H14.sep.sub (List.nil_sublist _)⟩
      rw [Seal.key_bad (by omega)]
      rfl
  · first
    | fail
    | skip
      clear H5; intro H15
      refine plain (y_move rfl rfl) rfl rfl rfl H15 ?_
      clear H15; intro a16 H16
      refine plain (y_gtr rfl rfl rfl) rfl rfl rfl H16 ?_
      clear H16; intro a17 H17
      refine plain (y_pick_f rfl rfl rfl) rfl rfl rfl H17 ?_
      clear H17; intro a18 H18
      refine fin ?_
      refine then_n ?_
      refine cnd_d H18 rfl (fun hc19 => ?_) (fun hc19 => ?_) -- cond 2
      · skip
        refine wp_seq ?_
        refine reg ?_
        refine plain (y_buildA rfl z_zero23 Tryd.underlying23 z_size5 rfl rfl) rfl rfl rfl H18 ?_
        clear H18; intro a20 H20
        refine st_store (vs := _) rfl z_size23 rfl rfl rfl rfl rfl (by repeat (first | exact Upd.head _ _ _ | apply Upd.tail)) (by decide) rfl rfl H20 ?_
        clear H20; intro w21 H21
        refine plain (y_assign rfl rfl) rfl rfl rfl H21 ?_
        clear H21; intro a22 H22
        refine fin ?_
        refine then_n ?_
        refine wp_ret ?_
        refine then_r ?_
        -- return 2
        refine retct rfl H22 rfl z_agg23 z_size23 (by repeat (first | exact List.Mem.head _ | apply List.Mem.tail)) rfl rfl ?_
        refine ⟨_, [], rfl, ⟨?_, rfl⟩, H22.sep.sub (List.nil_sublist _)⟩
        rw [Seal.key_bad (by omega)]
        rfl
      · skip
        refine wp_skip ?_
        refine then_n ?_
        refine wp_seq ?_
        refine wp_seq ?_
        refine reg ?_
        refine plain (y_move rfl rfl) rfl rfl rfl H18 ?_
        clear H18; intro a23 H23
        refine plain (y_eql rfl rfl rfl) rfl rfl rfl H23 ?_
        clear H23; intro a24 H24
        refine fin ?_
        refine then_n ?_
        refine cnd_d H24 rfl (fun hc25 => ?_) (fun hc25 => ?_) -- cond 3
        · skip
          refine wp_seq ?_
          refine reg ?_
          refine st_callg rfl z_call22 rfl rfl rfl rfl H24 (rsum _ (by simp) _) ?_
          clear H24; intro a26 w26 H26
          refine st_store (vs := _) rfl z_size23 rfl rfl (show _ = List.map u8 _ from rfl) (one_u8 _) (by rw [List.length_map, Sha.sum_length]) (by repeat (first | exact Upd.head _ _ _ | apply Upd.tail)) (by decide) rfl rfl H26 ?_
          clear H26; intro w27 H27
          refine plain (y_assign rfl rfl) rfl rfl rfl H27 ?_
          clear H27; intro a28 H28
          refine fin ?_
          refine then_n ?_
          refine wp_ret ?_
          refine then_r ?_
          -- return 3
          refine retct rfl H28 rfl z_agg23 z_size23 (by repeat (first | exact List.Mem.head _ | apply List.Mem.tail)) (by rw [spl_all (by rw [List.length_map, Sha.sum_length]; rfl), List.length_map, Sha.sum_length]) rfl ?_
          refine ⟨_, [], rfl, ⟨?_, rfl⟩, H28.sep.sub (List.nil_sublist _)⟩
          rw [spl_all (by rw [List.length_map, Sha.sum_length]; rfl), Seal.key_ok (by omega)]
          rw [show who = 0 by omega, Seal.num0]
          rfl
        · skip
          refine wp_skip ?_
          refine then_n ?_
          refine wp_seq ?_
          refine reg ?_
          refine plain (y_move rfl rfl) rfl rfl rfl H24 ?_
          clear H24; intro a29 H29
          refine plain (y_conv rfl Tryd.underlying3 Tryd.underlying5 rfl (show IntKind.u8.wrap who = ((UInt8.ofNat who.toNat).toNat : Int) by rw [wu8_mod, UInt8.toNat_ofNat']; omega)) rfl rfl rfl H29 ?_
          clear H29; intro a30 H30
          refine st_buildSlice1 (xs := [.tmp 15]) rfl Tryd.underlying44 z_size5 z_zero5 rfl rfl rfl rfl rfl rfl rfl rfl rfl H30 ?_
          clear H30; intro b31 a31 w31 H31
          refine plain (y_bstr (p := [UInt8.ofNat who.toNat]) rfl Tryd.underlying44 Tryd.underlying5 Tryd.underlying9 rfl (by simp) (rd_blkA (by repeat (first | exact List.Mem.head _ | apply List.Mem.tail)))) rfl rfl rfl H31 ?_
          clear H31; intro a32 H32
          refine plain (y_sadd rfl rfl rfl (by simp)) rfl rfl rfl H32 ?_
          clear H32; intro a33 H33
          refine st_callg rfl z_call22 rfl rfl rfl rfl H33 (rsum _ (by simp) _) ?_
          clear H33; intro a34 w34 H34
          refine st_store (vs := _) rfl z_size23 rfl rfl (show _ = List.map u8 _ from rfl) (one_u8 _) (by rw [List.length_map, Sha.sum_length]) (by repeat (first | exact Upd.head _ _ _ | apply Upd.tail)) (by decide) rfl rfl H34 ?_
          clear H34; intro w35 H35
          refine plain (y_assign rfl rfl) rfl rfl rfl H35 ?_
          clear H35; intro a36 H36
          refine fin ?_
          refine then_n ?_
          refine wp_ret ?_
          -- return 4
          refine retct rfl H36 rfl z_agg23 z_size23 (by repeat (first | exact List.Mem.head _ | apply List.Mem.tail)) (by rw [spl_all (by rw [List.length_map, Sha.sum_length]; rfl), List.length_map, Sha.sum_length]) rfl ?_
          refine ⟨_, [], rfl, ⟨?_, rfl⟩, H36.sep.sub (List.nil_sublist _)⟩
          rw [spl_all (by rw [List.length_map, Sha.sum_length]; rfl), Seal.key_ok (by omega)]
          rw [Seal.num1 (by omega) (by omega)]
          rfl
set_option maxRecDepth 100000 in
set_option maxHeartbeats 2000000 in
theorem stag (who dom : Int) (hw : -9223372036854775808 ≤ who ∧ who ≤ 9223372036854775807) (hd : -9223372036854775808 ≤ dom ∧ dom ≤ 9223372036854775807) (body : List UInt8) (hbl : body.length ≤ 140737488351232) {w : World} (hG : Glob 0 Sha.K w) : Calls Tryd.prog 16 #[.int .i64 who, .int .i64 dom, str body] w (Gives (.tuple #[.agg ((Seal.tag who dom body).1.map u8).toArray, .int .i64 (Seal.tag who dom body).2]) [] w) := by
  refine enterL (args := [.int .i64 who, .int .i64 dom, str body]) Tryd.func16 rfl rfl (l := []) (Sep.refl _) ?_
  intro a0 H0
  refine wp_seq ?_
  refine reg ?_
  refine st_alloc rfl z_zero23 rfl rfl rfl H0 ?_
  clear H0; intro b1 a1 w1 H1
  refine plain (y_assign rfl rfl) rfl rfl rfl H1 ?_
  clear H1; intro a2 H2
  refine fin ?_
  refine then_n ?_
  refine wp_seq ?_
  refine reg ?_
  refine plain (y_move rfl rfl) rfl rfl rfl H2 ?_
  clear H2; intro a3 H3
  refine st_callg rfl z_call13 rfl rfl rfl rfl H3 (skey who hw (hG.frm H3.sep.frm (by simp))) ?_
  clear H3; intro a4 w4 H4
  refine plain (y_move rfl rfl) rfl rfl rfl H4 ?_
  clear H4; intro a5 H5
  refine plain (y_extract rfl rfl rfl) rfl rfl rfl H5 ?_
  clear H5; intro a6 H6
  refine plain (y_extract rfl rfl rfl) rfl rfl rfl H6 ?_
  clear H6; intro a7 H7
  refine st_alloc rfl z_zero23 rfl rfl rfl H7 ?_
  clear H7; intro b8 a8 w8 H8
  refine st_store (vs := _) rfl z_size23 rfl rfl (show _ = List.map u8 _ from rfl) (one_u8 _) (by rw [List.length_map, Seal.key_len]) (by repeat (first | exact Upd.head _ _ _ | apply Upd.tail)) (by decide) rfl rfl H8 ?_
  clear H8; intro w9 H9
  refine plain (y_assign rfl rfl) rfl rfl rfl H9 ?_
  clear H9; intro a10 H10
  refine fin ?_
  refine then_n ?_
  refine wp_seq ?_
  refine wp_seq ?_
  refine reg ?_
  refine plain (y_move rfl rfl) rfl rfl rfl H10 ?_
  clear H10; intro a11 H11
  refine plain (y_neq rfl rfl rfl) rfl rfl rfl H11 ?_
  clear H11; intro a12 H12
  refine fin ?_
  refine then_n ?_
  refine cnd_d H12 rfl (fun hc13 => ?_) (fun hc13 => ?_) -- cond 1
  · skip
    refine wp_seq ?_
    refine reg ?_
    refine plain (y_buildA rfl z_zero23 Tryd.underlying23 z_size5 rfl rfl) rfl rfl rfl H12 ?_
    clear H12; intro a14 H14
    refine plain (y_move rfl rfl) rfl rfl rfl H14 ?_
    clear H14; intro a15 H15
    refine st_store (vs := _) rfl z_size23 rfl rfl rfl rfl rfl (by repeat (first | exact Upd.head _ _ _ | apply Upd.tail)) (by decide) rfl rfl H15 ?_
    clear H15; intro w16 H16
    refine plain (y_assign rfl rfl) rfl rfl rfl H16 ?_
    clear H16; intro a17 H17
    refine fin ?_
    refine then_n ?_
    refine wp_ret ?_
    refine then_r ?_
    -- return 1
    refine retct rfl H17 rfl z_agg23 z_size23 (by repeat (first | exact List.Mem.head _ | apply List.Mem.tail)) rfl rfl ?_
    refine ⟨_, [], rfl, ⟨?_, rfl⟩, H17.sep.sub (List.nil_sublist _)⟩
    rw [Seal.tag_err (by omega)]
    rfl
  · skip
    refine wp_skip ?_
    refine then_n ?_
    refine wp_seq ?_
    refine wp_seq ?_
    refine reg ?_
    refine plain (y_move rfl rfl) rfl rfl rfl H12 ?_
    clear H12; intro a18 H18
    refine plain (y_lss rfl rfl rfl) rfl rfl rfl H18 ?_
    clear H18; intro a19 H19
    refine plain (y_move rfl rfl) rfl rfl rfl H19 ?_
    clear H19; intro a20 H20
    refine part_d (d := 21) H20 rfl (fun hg21 => ?_) (fun hg21 => ?_)
    · first
      | fail
      | skip
        clear H20; intro H22
        refine skip rfl rfl rfl H22 ?_
        clear H22; intro a23 H23
        refine skip rfl rfl rfl H23 ?_
        clear H23; intro a24 H24
        refine plain (y_pick_t rfl rfl rfl) rfl rfl rfl H24 ?_
        clear H24; intro a25 H25
        refine fin ?_
        refine then_n ?_
        refine cnd_t H25 rfl ?_
        refine wp_seq ?_
        refine reg ?_
        refine plain (y_buildA rfl z_zero23 Tryd.underlying23 z_size5 rfl rfl) rfl rfl rfl H25 ?_
        clear H25; intro a27 H27
        refine st_store (vs := _) rfl z_size23 rfl rfl rfl rfl rfl (by repeat (first | exact Upd.head _ _ _ | apply Upd.tail)) (by decide) rfl rfl H27 ?_
        clear H27; intro w28 H28
        refine plain (y_assign rfl rfl) rfl rfl rfl H28 ?_
        clear H28; intro a29 H29
        refine fin ?_
        refine then_n ?_
        refine wp_ret ?_
        refine then_r ?_
        -- return 2
        refine retct rfl H29 rfl z_agg23 z_size23 (by repeat (first | exact List.Mem.head _ | apply List.Mem.tail)) rfl rfl ?_
        refine ⟨_, [], rfl, ⟨?_, rfl⟩, H29.sep.sub (List.nil_sublist _)⟩
        rw [Seal.tag_dom (by omega) (by omega)]
        rfl
    · first
      | fail
      | skip
        clear H20; intro H30
        refine plain (y_move rfl rfl) rfl rfl rfl H30 ?_
        clear H30; intro a31 H31
        refine plain (y_gtr rfl rfl rfl) rfl rfl rfl H31 ?_
        clear H31; intro a32 H32
        refine plain (y_pick_f rfl rfl rfl) rfl rfl rfl H32 ?_
        clear H32; intro a33 H33
        refine fin ?_
        refine then_n ?_
        refine cnd_d H33 rfl (fun hc34 => ?_) (fun hc34 => ?_) -- cond 3
        · skip
          refine wp_seq ?_
          refine reg ?_
          refine plain (y_buildA rfl z_zero23 Tryd.underlying23 z_size5 rfl rfl) rfl rfl rfl H33 ?_
          clear H33; intro a35 H35
          refine st_store (vs := _) rfl z_size23 rfl rfl rfl rfl rfl (by repeat (first | exact Upd.head _ _ _ | apply Upd.tail)) (by decide) rfl rfl H35 ?_
          clear H35; intro w36 H36
          refine plain (y_assign rfl rfl) rfl rfl rfl H36 ?_
          clear H36; intro a37 H37
          refine fin ?_
          refine then_n ?_
          refine wp_ret ?_
          refine then_r ?_
          -- return 3
          refine retct rfl H37 rfl z_agg23 z_size23 (by repeat (first | exact List.Mem.head _ | apply List.Mem.tail)) rfl rfl ?_
          refine ⟨_, [], rfl, ⟨?_, rfl⟩, H37.sep.sub (List.nil_sublist _)⟩
          rw [Seal.tag_dom (by omega) (by omega)]
          rfl
        · skip
          refine wp_skip ?_
          refine then_n ?_
          refine wp_seq ?_
          refine reg ?_
          refine plain (y_loadAB rfl z_agg23 z_size23 rfl (by repeat (first | exact List.Mem.head _ | apply List.Mem.tail)) (show _ = (Seal.key who).1.map u8 by rw [spl_all (by rw [List.length_map, Seal.key_len]; rfl)]; exact take_all (by rw [List.length_map, Seal.key_len])) (by rw [List.length_map, Seal.key_len])) rfl rfl rfl H33 ?_
          clear H33; intro a38 H38
          refine plain (y_move rfl rfl) rfl rfl rfl H38 ?_
          clear H38; intro a39 H39
          refine plain (y_conv rfl Tryd.underlying3 Tryd.underlying5 rfl (show IntKind.u8.wrap dom = ((UInt8.ofNat dom.toNat).toNat : Int) by rw [wu8_mod, UInt8.toNat_ofNat']; omega)) rfl rfl rfl H39 ?_
          clear H39; intro a40 H40
          refine st_buildSlice1 (xs := [.tmp 28]) rfl Tryd.underlying44 z_size5 z_zero5 rfl rfl rfl rfl rfl rfl rfl rfl rfl H40 ?_
          clear H40; intro b41 a41 w41 H41
          refine plain (y_bstr (p := [UInt8.ofNat dom.toNat]) rfl Tryd.underlying44 Tryd.underlying5 Tryd.underlying9 rfl (by simp) (rd_blkA (by repeat (first | exact List.Mem.head _ | apply List.Mem.tail)))) rfl rfl rfl H41 ?_
          clear H41; intro a42 H42
          refine plain (y_move rfl rfl) rfl rfl rfl H42 ?_
          clear H42; intro a43 H43
          refine plain (y_sadd rfl rfl rfl (by simp only [List.length_cons, List.length_nil]; omega)) rfl rfl rfl H43 ?_
          clear H43; intro a44 H44
          refine st_callg rfl z_call25 rfl rfl rfl rfl H44 (dchain2 _ (Seal.key_len who) _ (by simp only [List.length_append, List.length_cons, List.length_nil]; omega) (hG.frm H44.sep.frm (by simp))) ?_
          clear H44; intro a45 w45 H45
          refine st_store (vs := _) rfl z_size23 rfl rfl (show _ = List.map u8 _ from rfl) (one_u8 _) (by rw [List.length_map, Sha.sum_length]) (by repeat (first | exact Upd.head _ _ _ | apply Upd.tail)) (by decide) rfl rfl H45 ?_
          clear H45; intro w46 H46
          refine plain (y_assign rfl rfl) rfl rfl rfl H46 ?_
          clear H46; intro a47 H47
          refine fin ?_
          refine then_n ?_
          refine wp_ret ?_
          -- return 4
          refine retct rfl H47 rfl z_agg23 z_size23 (by repeat (first | exact List.Mem.head _ | apply List.Mem.tail)) (by rw [spl_all (by rw [List.length_map, Sha.sum_length]; rfl), List.length_map, Sha.sum_length]) rfl ?_
          refine ⟨_, [], rfl, ⟨?_, rfl⟩, H47.sep.sub (List.nil_sublist _)⟩
          rw [spl_all (by rw [List.length_map, Sha.sum_length]; rfl), Seal.tag_ok (by omega) (by omega)]
          try rfl

end Go.Proofs.YtbadncpjbdfinaaDoor.D_Key
