/- Part of a proof about given Go functions: contracts of functions, or plain laws. -/
import Derived.Test.YtbadncpjbdfinaaDoorSxW
import Derived.Test.YtbadncpjbdfinaaDoorSxI
import Derived.Test.YtbadncpjbdfinaaDoorSha
import Derived.Test.YtbadncpjbdfinaaDoorShaAbc
import Derived.Test.YtbadncpjbdfinaaDoorSxX
import Derived.Test.YtbadncpjbdfinaaDoorSxY
import Derived.Test.YtbadncpjbdfinaaDoorMerk
import Derived.Test.YtbadncpjbdfinaaDoorOct2
import Derived.Test.YtbadncpjbdfinaaDoorSxZ
import Derived.Test.YtbadncpjbdfinaaDoorMerk2
import Derived.Test.YtbadncpjbdfinaaDoorProg
import Derived.Test.YtbadncpjbdfinaaDoorDBlock
import Derived.Test.YtbadncpjbdfinaaDoorDSum
import Derived.Test.YtbadncpjbdfinaaDoorDRef
import Derived.Test.YtbadncpjbdfinaaDoorDRSum
import Derived.Test.YtbadncpjbdfinaaDoorDLeaf
import Derived.Test.YtbadncpjbdfinaaDoorDRoot
import Derived.Test.YtbadncpjbdfinaaDoorDRoot2
set_option linter.unusedVariables false
set_option linter.unusedSimpArgs false
namespace Go.Proofs.YtbadncpjbdfinaaDoor.D_Proof
open Go.Sx Go.RowKit Go.Proofs.YtbadncpjbdfinaaDoor.D_Block Go.Proofs.YtbadncpjbdfinaaDoor.D_Sum Go.Proofs.YtbadncpjbdfinaaDoor.D_Ref Go.Proofs.YtbadncpjbdfinaaDoor.D_RSum Go.Proofs.YtbadncpjbdfinaaDoor.D_Leaf Go.Proofs.YtbadncpjbdfinaaDoor.D_Root Go.Proofs.YtbadncpjbdfinaaDoor.D_Root2

theorem z_call40 : callB Tryd.prog 40 = true := by kernel_rfl
theorem z_size9 : sizeB Tryd.prog 9 = some 1 := by kernel_rfl
theorem z_call29 : callB Tryd.prog 29 = true := by kernel_rfl
theorem z_size23 : sizeB Tryd.prog 23 = some 32 := by kernel_rfl
theorem z_zero23 : zeroL Tryd.prog 23 = some (List.replicate 32 (.int .u8 0)) := by kernel_rfl
theorem z_slice38 : sliceB Tryd.prog 38 = some (23, 32, 32) := by kernel_rfl
theorem z_notint38 : notIntB Tryd.prog 38 = true := by kernel_rfl

set_option maxRecDepth 100000 in
set_option maxHeartbeats 4000000 in
theorem dproof (l0 : List (List UInt8)) (A0 : Option Addr) (c0 : Nat) (hc0 : l0.length ≤ c0) (hb0 : ∀ x ∈ l0, x.length ≤ 140737488351232) (hl0 : l0.length ≤ 1000000) (i0 : Nat) (hi0 : i0 < l0.length) {w : World} (hR0 : Rd w A0 (l0.map str)) (hG : Glob 0 Sha.K w) : Calls Tryd.prog 28 #[.slice A0 l0.length c0, .int .i64 (i0 : Int)] w (Post [] w (fun u l' => ∃ v, u = .tuple #[v, .int .i64 0] ∧ l' = [It.row 23 32 v (Merk.proof l0 i0).length (hc (Merk.proof l0 i0))])) := by
  refine enterL (args := [.slice A0 l0.length c0, .int .i64 (i0 : Int)]) Tryd.func28 rfl rfl (l := []) (Sep.refl _) ?_
  intro a0 H0
  refine wp_seq ?_
  refine reg ?_
  refine plain (y_assign rfl rfl) rfl rfl rfl H0 ?_
  clear H0; intro a1 H1
  refine plain (y_assign rfl rfl) rfl rfl rfl H1 ?_
  clear H1; intro a2 H2
  refine fin ?_
  refine then_n ?_
  refine wp_seq ?_
  refine wp_seq ?_
  refine reg ?_
  refine plain (y_move rfl rfl) rfl rfl rfl H2 ?_
  clear H2; intro a3 H3
  refine plain (y_lss rfl rfl rfl) rfl rfl rfl H3 ?_
  clear H3; intro a4 H4
  refine plain (y_move rfl rfl) rfl rfl rfl H4 ?_
  clear H4; intro a5 H5
  have H7 := H5.know (d := 10) (v := .bool false) rfl (congrArg Value.bool (decide_eq_false (by omega)))
  clear H5
  refine plain (y_move rfl rfl) rfl rfl rfl H7 ?_
  clear H7; intro a8 H8
  refine plain (y_move rfl rfl) rfl rfl rfl H8 ?_
  clear H8; intro a9 H9
  refine plain (y_len rfl Tryd.underlying46 rfl) rfl rfl rfl H9 ?_
  clear H9; intro a10 H10
  refine plain (y_geq rfl rfl rfl) rfl rfl rfl H10 ?_
  clear H10; intro a11 H11
  refine plain (y_pick_f rfl rfl rfl) rfl rfl rfl H11 ?_
  clear H11; intro a12 H12
  refine fin ?_
  refine then_n ?_
  refine cnd_d H12 rfl (fun hc13 => ?_) (fun hc13 => ?_) -- cond 1
  · (exfalso; omega)
  · skip
    refine wp_skip ?_
    refine then_n ?_
    refine wp_seq ?_
    refine reg ?_
    refine plain (y_assign rfl rfl) rfl rfl rfl H12 ?_
    clear H12; intro a14 H14
    refine fin ?_
    refine then_n ?_
    refine wp_seq ?_
    refine wp_block ?_
    replace H14 := H14.nilRow 23 32
    refine loop (ι := List (List UInt8) × Option Addr × Nat × Nat × List (List UInt8) × Value) (fun x => [(0, .slice x.2.1 x.1.length x.2.2.1), (1, .int .i64 (x.2.2.2.1 : Int)), (6, x.2.2.2.2.2)]) (fun x => [It.row 23 32 x.2.2.2.2.2 x.2.2.2.2.1.length (hc x.2.2.2.2.1)]) (fun x => x.2.2.2.1 < x.1.length ∧ x.1.length ≤ x.2.2.1 ∧ (∀ y ∈ x.1, y.length ≤ 140737488351232) ∧ x.1.length ≤ 1000000 ∧ Rd w x.2.1 (x.1.map str) ∧ Merk.proof l0 i0 = Merk.proof x.1 x.2.2.2.1 ++ x.2.2.2.2.1 ∧ H32 x.2.2.2.2.1 ∧ x.2.2.2.2.1.length + x.1.length ≤ l0.length) (fun x => x.1.length) ((l0, A0, c0, i0, [], .slice none 0 0)) ⟨hi0, hc0, hb0, hl0, hR0, (List.append_nil _).symm, (fun h hh => by cases hh), by simp⟩ (H14.weak ⟨rfl, rfl, rfl, trivial⟩ rfl) ?_
    clear H14; intro x a15 wx15 hok15 H15
    obtain ⟨l, A, c, i, out, v⟩ := x
    dsimp only at hok15 H15
    obtain ⟨hi, hcl, hbl, hll, hRl, hpr, h32, hol⟩ := hok15
    obtain ⟨Ao, co, hvo, hRo, hmo⟩ := row_shape (v := v) H15.sep (by repeat (first | exact List.Mem.head _ | apply List.Mem.tail))
    subst hvo
    refine wp_seq ?_
    refine wp_seq ?_
    refine reg ?_
    refine plain (y_move rfl rfl) rfl rfl rfl H15 ?_
    clear H15; intro a16 H16
    refine plain (y_len rfl Tryd.underlying46 rfl) rfl rfl rfl H16 ?_
    clear H16; intro a17 H17
    refine plain (y_gtr rfl rfl rfl) rfl rfl rfl H17 ?_
    clear H17; intro a18 H18
    refine fin ?_
    refine then_n ?_
    refine cnd_d H18 rfl (fun hc19 => ?_) (fun hc19 => ?_) -- cond 2
    · skip
      have hhl := Merk.half_lt (n := l.length) (by omega)
      refine wp_skip ?_
      refine then_n ?_
      refine wp_block ?_
      refine wp_seq ?_
      refine reg ?_
      refine plain (y_move rfl rfl) rfl rfl rfl H18 ?_
      clear H18; intro a20 H20
      refine plain (y_len rfl Tryd.underlying46 rfl) rfl rfl rfl H20 ?_
      clear H20; intro a21 H21
      refine st_callg rfl z_call40 rfl rfl rfl rfl H21 (dleft l.length (by omega) (by omega) _) ?_
      clear H21; intro a22 wx22 H22
      refine plain (y_assign rfl rfl) rfl rfl rfl H22 ?_
      clear H22; intro a23 H23
      refine fin ?_
      refine then_n ?_
      refine wp_seq ?_
      refine reg ?_
      refine plain (y_move rfl rfl) rfl rfl rfl H23 ?_
      clear H23; intro a24 H24
      refine plain (y_move rfl rfl) rfl rfl rfl H24 ?_
      clear H24; intro a25 H25
      refine plain (y_lss rfl rfl rfl) rfl rfl rfl H25 ?_
      clear H25; intro a26 H26
      refine fin ?_
      refine then_n ?_
      refine cnd_d H26 rfl (fun hc27 => ?_) (fun hc27 => ?_) -- cond 3
      · skip
        refine wp_seq ?_
        refine reg ?_
        refine plain (y_move rfl rfl) rfl rfl rfl H26 ?_
        clear H26; intro a28 H28
        refine plain (y_move rfl rfl) rfl rfl rfl H28 ?_
        clear H28; intro a29 H29
        refine plain (y_slS_lo rfl Tryd.underlying46 z_size9 rfl rfl (by omega) (by omega)) rfl rfl rfl H29 ?_
        clear H29; intro a30 H30
        refine st_callg rfl z_call29 rfl rfl rfl rfl H30 (droot (l.drop (Merk.half l.length)) _ _ _ _ (by rw [List.length_drop]; omega) (by omega) (fun x hx => hbl x (List.mem_of_mem_drop hx)) (by rw [List.length_drop]; omega) (by rw [List.map_drop, Nat.mul_one]; exact (Rd.frm hRl H30.sep.frm (by simp)).drop _ _ (fun h => by rw [List.length_map]; omega)) (hG.frm H30.sep.frm (by simp))) ?_
        clear H30; intro a31 wx31 H31
        refine st_buildSlice rfl Tryd.underlying38 z_size23 z_zero23 rfl rfl rfl (lay_agg (vs := (Merk.root (l.drop (Merk.half l.length))).map u8) rfl (by rw [List.length_map, Merk.root_len]) (by simp)) rfl rfl rfl H31 ?_
        clear H31; intro b32 a32 wx32 H32
        replace H32 := H32.asRow (size := 32) (m := 1) (by repeat (first | exact Upd.head _ _ _ | apply Upd.tail)) (by rw [List.length_map, Merk.root_len]) (by unfold maxLen; omega)
        refine plain (y_move rfl rfl) rfl rfl rfl H32 ?_
        clear H32; intro a33 H33
        refine st_append rfl z_slice38 z_notint38 rfl rfl (fun _ => (by repeat (first | exact Upd.head _ _ _ | apply Upd.tail))) (fun w hs => Src.slice (rd_row (List.Mem.tail _ (List.Mem.head _)) w hs) (hc_len h32) (hc_cell _)) (by unfold maxLen; omega) (by omega) rfl rfl rfl H33 ?_
        clear H33; intro v34 a34 wx34 hnil34 H34
        refine plain (y_assign rfl rfl) rfl rfl rfl H34 ?_
        clear H34; intro a35 H35
        refine fin ?_
        refine then_n ?_
        refine reg ?_
        refine plain (y_move rfl rfl) rfl rfl rfl H35 ?_
        clear H35; intro a36 H36
        refine plain (y_move rfl rfl) rfl rfl rfl H36 ?_
        clear H36; intro a37 H37
        refine plain (y_slS_hi rfl Tryd.underlying46 z_size9 rfl rfl (by omega) (by omega) hcl) rfl rfl rfl H37 ?_
        clear H37; intro a38 H38
        refine plain (y_assign rfl rfl) rfl rfl rfl H38 ?_
        clear H38; intro a39 H39
        refine fin ?_
        refine inb_n ?_
        refine then_n ?_
        refine ⟨((l.take (Merk.half l.length)), A, c, i, Merk.root (l.drop (Merk.half l.length)) :: out, v34), by dsimp only; rw [List.length_take]; omega, ⟨by dsimp only; rw [List.length_take]; omega, by dsimp only; rw [List.length_take]; omega, (fun x hx => hbl x (List.mem_of_mem_take hx)), by dsimp only; rw [List.length_take]; omega, by dsimp only; rw [List.map_take]; exact hRl.take _, ?_, ?_, by dsimp only; rw [List.length_take, List.length_cons]; omega⟩, (H39.drop (List.Sublist.cons_cons _ (List.Sublist.cons _ (List.Sublist.refl _)))).weak ⟨fv rfl (by rw [List.length_take, Nat.min_eq_left (by omega), Int.toNat_natCast]), rfl, rfl, trivial⟩ (ir (by simp; omega) (by rw [← hc_one, ← hc_append]; rfl))⟩
        · dsimp only; rw [hpr, Merk.proof_left (by omega) (by omega), List.append_assoc]; rfl
        · intro h hh; rcases List.mem_cons.1 hh with rfl | hh; exact Merk.root_len _; exact h32 _ hh
      · skip
        refine wp_seq ?_
        refine reg ?_
        refine plain (y_move rfl rfl) rfl rfl rfl H26 ?_
        clear H26; intro a40 H40
        refine plain (y_move rfl rfl) rfl rfl rfl H40 ?_
        clear H40; intro a41 H41
        refine plain (y_slS_hi rfl Tryd.underlying46 z_size9 rfl rfl (by omega) (by omega) hcl) rfl rfl rfl H41 ?_
        clear H41; intro a42 H42
        refine st_callg rfl z_call29 rfl rfl rfl rfl H42 (droot (l.take (Merk.half l.length)) _ _ _ _ (by rw [List.length_take]; omega) (by omega) (fun x hx => hbl x (List.mem_of_mem_take hx)) (by rw [List.length_take]; omega) (by rw [List.map_take]; exact (Rd.frm hRl H42.sep.frm (by simp)).take _) (hG.frm H42.sep.frm (by simp))) ?_
        clear H42; intro a43 wx43 H43
        refine st_buildSlice rfl Tryd.underlying38 z_size23 z_zero23 rfl rfl rfl (lay_agg (vs := (Merk.root (l.take (Merk.half l.length))).map u8) rfl (by rw [List.length_map, Merk.root_len]) (by simp)) rfl rfl rfl H43 ?_
        clear H43; intro b44 a44 wx44 H44
        replace H44 := H44.asRow (size := 32) (m := 1) (by repeat (first | exact Upd.head _ _ _ | apply Upd.tail)) (by rw [List.length_map, Merk.root_len]) (by unfold maxLen; omega)
        refine plain (y_move rfl rfl) rfl rfl rfl H44 ?_
        clear H44; intro a45 H45
        refine st_append rfl z_slice38 z_notint38 rfl rfl (fun _ => (by repeat (first | exact Upd.head _ _ _ | apply Upd.tail))) (fun w hs => Src.slice (rd_row (List.Mem.tail _ (List.Mem.head _)) w hs) (hc_len h32) (hc_cell _)) (by unfold maxLen; omega) (by omega) rfl rfl rfl H45 ?_
        clear H45; intro v46 a46 wx46 hnil46 H46
        refine plain (y_assign rfl rfl) rfl rfl rfl H46 ?_
        clear H46; intro a47 H47
        refine fin ?_
        refine then_n ?_
        refine reg ?_
        refine plain (y_move rfl rfl) rfl rfl rfl H47 ?_
        clear H47; intro a48 H48
        refine plain (y_move rfl rfl) rfl rfl rfl H48 ?_
        clear H48; intro a49 H49
        refine plain (y_slS_lo rfl Tryd.underlying46 z_size9 rfl rfl (by omega) (by omega)) rfl rfl rfl H49 ?_
        clear H49; intro a50 H50
        refine plain (y_move rfl rfl) rfl rfl rfl H50 ?_
        clear H50; intro a51 H51
        refine plain (y_move rfl rfl) rfl rfl rfl H51 ?_
        clear H51; intro a52 H52
        refine plain (y_sub rfl rfl rfl (by first | exact w64 (by omega) (by omega) | rfl)) rfl rfl rfl H52 ?_
        clear H52; intro a53 H53
        refine plain (y_assign rfl rfl) rfl rfl rfl H53 ?_
        clear H53; intro a54 H54
        refine plain (y_assign rfl rfl) rfl rfl rfl H54 ?_
        clear H54; intro a55 H55
        refine fin ?_
        refine inb_n ?_
        refine then_n ?_
        refine ⟨((l.drop (Merk.half l.length)), _, _, i - Merk.half l.length, Merk.root (l.take (Merk.half l.length)) :: out, v46), by dsimp only; rw [List.length_drop]; omega, ⟨by dsimp only; rw [List.length_drop]; omega, ?_, (fun x hx => hbl x (List.mem_of_mem_drop hx)), by dsimp only; rw [List.length_drop]; omega, ?_, ?_, ?_, by dsimp only; rw [List.length_drop, List.length_cons]; omega⟩, (H55.drop (List.Sublist.cons_cons _ (List.Sublist.cons _ (List.Sublist.refl _)))).weak ⟨fv rfl (by rw [List.length_drop, Int.toNat_natCast]), fi rfl (by dsimp only; omega), rfl, trivial⟩ (ir (by simp; omega) (by rw [← hc_one, ← hc_append]; rfl))⟩
        · dsimp only; rw [List.length_drop]; omega
        · dsimp only; rw [List.map_drop]; have := hRl.drop (Merk.half l.length) (c = ((Merk.half l.length : Nat) : Int).toNat) (fun h => by rw [List.length_map]; omega); simpa using this
        · dsimp only; rw [hpr, Merk.proof_right (by omega) (by omega), List.append_assoc]; rfl
        · intro h hh; rcases List.mem_cons.1 hh with rfl | hh; exact Merk.root_len _; exact h32 _ hh
    · skip
      refine wp_exit ?_
      refine then_x ?_
      refine then_x ?_
      refine inb_hit ?_
      refine then_n ?_
      refine wp_seq ?_
      refine reg ?_
      refine plain (y_move rfl rfl) rfl rfl rfl H18 ?_
      clear H18; intro a56 H56
      refine plain (y_assign rfl rfl) rfl rfl rfl H56 ?_
      clear H56; intro a57 H57
      refine plain (y_assign rfl rfl) rfl rfl rfl H57 ?_
      clear H57; intro a58 H58
      refine fin ?_
      refine then_n ?_
      refine wp_ret ?_
      -- return 1
      refine ret2 rfl H58 rfl rfl ?_
      refine ⟨_, _, rfl, ⟨_, rfl, ?_⟩, H58.sep⟩
      rw [hpr, Merk.proof_small (by omega)]
      rfl

end Go.Proofs.YtbadncpjbdfinaaDoor.D_Proof
