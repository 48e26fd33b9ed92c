/- Part of a proof about given Go functions: contracts of functions, or plain laws. -/
import Derived.Test.YtbadncpjbdfinaaDoorSxW
import Derived.Test.YtbadncpjbdfinaaDoorSxI
import Derived.Test.YtbadncpjbdfinaaDoorSha
import Derived.Test.YtbadncpjbdfinaaDoorShaAbc
import Derived.Test.YtbadncpjbdfinaaDoorSxX
import Derived.Test.YtbadncpjbdfinaaDoorSxY
import Derived.Test.YtbadncpjbdfinaaDoorMerk
import Derived.Test.YtbadncpjbdfinaaDoorOct2
import Derived.Test.YtbadncpjbdfinaaDoorSxZ
import Derived.Test.YtbadncpjbdfinaaDoorMerk2
import Derived.Test.YtbadncpjbdfinaaDoorProg
import Derived.Test.YtbadncpjbdfinaaDoorDBlock
import Derived.Test.YtbadncpjbdfinaaDoorDSum
import Derived.Test.YtbadncpjbdfinaaDoorDRef
import Derived.Test.YtbadncpjbdfinaaDoorDRSum
import Derived.Test.YtbadncpjbdfinaaDoorDLeaf
import Derived.Test.YtbadncpjbdfinaaDoorDRoot
import Derived.Test.YtbadncpjbdfinaaDoorDRoot2
set_option linter.unusedVariables false
set_option linter.unusedSimpArgs false
namespace Go.Proofs.YtbadncpjbdfinaaDoor.D_RProof
open Go.Sx Go.RowKit Go.Proofs.YtbadncpjbdfinaaDoor.D_Block Go.Proofs.YtbadncpjbdfinaaDoor.D_Sum Go.Proofs.YtbadncpjbdfinaaDoor.D_Ref Go.Proofs.YtbadncpjbdfinaaDoor.D_RSum Go.Proofs.YtbadncpjbdfinaaDoor.D_Leaf Go.Proofs.YtbadncpjbdfinaaDoor.D_Root Go.Proofs.YtbadncpjbdfinaaDoor.D_Root2

theorem z_call44 : callB Tryd.prog 44 = true := by kernel_rfl
theorem z_size9 : sizeB Tryd.prog 9 = some 1 := by kernel_rfl
theorem z_call32 : callB Tryd.prog 32 = true := by kernel_rfl
theorem z_call30 : callB Tryd.prog 30 = true := by kernel_rfl
theorem z_size23 : sizeB Tryd.prog 23 = some 32 := by kernel_rfl
theorem z_zero23 : zeroL Tryd.prog 23 = some (List.replicate 32 (.int .u8 0)) := by kernel_rfl
theorem z_slice38 : sliceB Tryd.prog 38 = some (23, 32, 32) := by kernel_rfl
theorem z_notint38 : notIntB Tryd.prog 38 = true := by kernel_rfl
theorem z_agg23 : aggB Tryd.prog 23 = some true := by kernel_rfl
theorem z_size5 : sizeB Tryd.prog 5 = some 1 := by kernel_rfl

set_option maxRecDepth 100000 in
set_option maxHeartbeats 1000000 in
theorem dproofX (m c0 : Nat) (A0 : Option Addr) (hm : m ≤ 9223372036854775807) (i : Int) (hi : i < 0 ∨ (m : Int) ≤ i) (w : World) : Calls Tryd.prog 28 #[.slice A0 m c0, .int .i64 i] w (Gives (.tuple #[.slice none 0 0, .int .i64 4]) [] w) := by
  refine enterL (args := [.slice A0 m c0, .int .i64 i]) Tryd.func28 rfl rfl (l := []) (Sep.refl _) ?_
  intro a0 H0
  refine wp_seq ?_
  refine reg ?_
  refine plain (y_assign rfl rfl) rfl rfl rfl H0 ?_
  clear H0; intro a1 H1
  refine plain (y_assign rfl rfl) rfl rfl rfl H1 ?_
  clear H1; intro a2 H2
  refine fin ?_
  refine then_n ?_
  refine wp_seq ?_
  refine wp_seq ?_
  refine reg ?_
  refine plain (y_move rfl rfl) rfl rfl rfl H2 ?_
  clear H2; intro a3 H3
  refine plain (y_lss rfl rfl rfl) rfl rfl rfl H3 ?_
  clear H3; intro a4 H4
  refine plain (y_move rfl rfl) rfl rfl rfl H4 ?_
  clear H4; intro a5 H5
  refine part_d (d := 10) H5 rfl (fun hg6 => ?_) (fun hg6 => ?_)
  · first
    | fail
    | skip
      clear H5; intro H7
      refine skip rfl rfl rfl H7 ?_
      clear H7; intro a8 H8
      refine skip rfl rfl rfl H8 ?_
      clear H8; intro a9 H9
      refine skip rfl rfl rfl H9 ?_
      clear H9; intro a10 H10
      refine skip rfl rfl rfl H10 ?_
      clear H10; intro a11 H11
      refine plain (y_pick_t rfl rfl rfl) rfl rfl rfl H11 ?_
      clear H11; intro a12 H12
      refine fin ?_
      refine then_n ?_
      refine cnd_t H12 rfl ?_
      refine wp_seq ?_
      refine reg ?_
      refine plain (y_assign rfl rfl) rfl rfl rfl H12 ?_
      clear H12; intro a14 H14
      refine plain (y_assign rfl rfl) rfl rfl rfl H14 ?_
      clear H14; intro a15 H15
      refine fin ?_
      refine then_n ?_
      refine wp_ret ?_
      refine then_r ?_
      -- return 1
      refine ret2 rfl H15 rfl rfl ?_
      exact ⟨_, [], rfl, ⟨rfl, rfl⟩, H15.sep.sub (List.nil_sublist _)⟩
  · first
    | fail
    | skip
      clear H5; intro H16
      refine plain (y_move rfl rfl) rfl rfl rfl H16 ?_
      clear H16; intro a17 H17
      refine plain (y_move rfl rfl) rfl rfl rfl H17 ?_
      clear H17; intro a18 H18
      refine plain (y_len rfl Tryd.underlying46 rfl) rfl rfl rfl H18 ?_
      clear H18; intro a19 H19
      refine plain (y_geq rfl rfl rfl) rfl rfl rfl H19 ?_
      clear H19; intro a20 H20
      refine plain (y_pick_f rfl rfl rfl) rfl rfl rfl H20 ?_
      clear H20; intro a21 H21
      refine fin ?_
      refine then_n ?_
      refine cnd_d H21 rfl (fun hc22 => ?_) (fun hc22 => ?_) -- cond 2
      · skip
        refine wp_seq ?_
        refine reg ?_
        refine plain (y_assign rfl rfl) rfl rfl rfl H21 ?_
        clear H21; intro a23 H23
        refine plain (y_assign rfl rfl) rfl rfl rfl H23 ?_
        clear H23; intro a24 H24
        refine fin ?_
        refine then_n ?_
        refine wp_ret ?_
        refine then_r ?_
        -- return 2
        refine ret2 rfl H24 rfl rfl ?_
        exact ⟨_, [], rfl, ⟨rfl, rfl⟩, H24.sep.sub (List.nil_sublist _)⟩
      · (exfalso; omega)
set_option maxRecDepth 100000 in
set_option maxHeartbeats 4000000 in
theorem rproofS (N : Nat) (ih : ∀ (l : List (List UInt8)) (A : Option Addr) (m c i : Nat) (w : World), l.length < N → m = l.length → m ≤ c → (∀ x ∈ l, x.length ≤ 140737488351232) → l.length ≤ 1000000 → i < l.length → Rd w A (l.map str) → Calls Tryd.prog 32 #[.slice A m c, .int .i64 (i : Int)] w (Post [] w (fun u l' => l' = [It.row 23 32 u (Merk.proof l i).length (hc (Merk.proof l i))]))) (l : List (List UInt8)) (A : Option Addr) (c : Nat) (i : Nat) (hN : l.length = N) (hcl : l.length ≤ c) (hb : ∀ x ∈ l, x.length ≤ 140737488351232) (hl : l.length ≤ 1000000) (hi : i < l.length) {w : World} (hR : Rd w A (l.map str)) : Calls Tryd.prog 32 #[.slice A l.length c, .int .i64 (i : Int)] w (Post [] w (fun u l' => l' = [It.row 23 32 u (Merk.proof l i).length (hc (Merk.proof l i))])) := by
  refine enterL (args := [.slice A l.length c, .int .i64 (i : Int)]) Tryd.func32 rfl rfl (l := []) (Sep.refl _) ?_
  intro a0 H0
  refine wp_seq ?_
  refine reg ?_
  refine plain (y_assign rfl rfl) rfl rfl rfl H0 ?_
  clear H0; intro a1 H1
  refine fin ?_
  refine then_n ?_
  refine wp_seq ?_
  refine wp_seq ?_
  refine reg ?_
  refine plain (y_move rfl rfl) rfl rfl rfl H1 ?_
  clear H1; intro a2 H2
  refine plain (y_len rfl Tryd.underlying46 rfl) rfl rfl rfl H2 ?_
  clear H2; intro a3 H3
  refine plain (y_lss rfl rfl rfl) rfl rfl rfl H3 ?_
  clear H3; intro a4 H4
  refine fin ?_
  refine then_n ?_
  refine cnd_d H4 rfl (fun hc5 => ?_) (fun hc5 => ?_) -- cond 1
  · skip
    refine wp_seq ?_
    refine reg ?_
    refine plain (y_assign rfl rfl) rfl rfl rfl H4 ?_
    clear H4; intro a6 H6
    refine fin ?_
    refine then_n ?_
    refine wp_ret ?_
    refine then_r ?_
    -- return 1
    refine ret1 rfl H6 rfl ?_
    refine ⟨_, _, rfl, ?_, H6.sep.addNil 23 32⟩
    rw [Merk.proof_small (by omega)]
    rfl
  · skip
    have hhl := Merk.half_lt (n := l.length) (by omega)
    refine wp_skip ?_
    refine then_n ?_
    refine wp_seq ?_
    refine reg ?_
    refine plain (y_move rfl rfl) rfl rfl rfl H4 ?_
    clear H4; intro a7 H7
    refine plain (y_len rfl Tryd.underlying46 rfl) rfl rfl rfl H7 ?_
    clear H7; intro a8 H8
    refine st_callg rfl z_call44 rfl rfl rfl rfl H8 (rhalf l.length (by omega) (by omega) _) ?_
    clear H8; intro a9 wx9 H9
    refine plain (y_assign rfl rfl) rfl rfl rfl H9 ?_
    clear H9; intro a10 H10
    refine fin ?_
    refine then_n ?_
    refine wp_seq ?_
    refine wp_seq ?_
    refine reg ?_
    refine plain (y_move rfl rfl) rfl rfl rfl H10 ?_
    clear H10; intro a11 H11
    refine plain (y_move rfl rfl) rfl rfl rfl H11 ?_
    clear H11; intro a12 H12
    refine plain (y_lss rfl rfl rfl) rfl rfl rfl H12 ?_
    clear H12; intro a13 H13
    refine fin ?_
    refine then_n ?_
    refine cnd_d H13 rfl (fun hc14 => ?_) (fun hc14 => ?_) -- cond 2
    · skip
      have hps := Merk.proof_left (l := l) (i := i) (by omega) (by omega)
      refine wp_seq ?_
      refine hreg [] (fun _ h => (h.sub (by first | exact List.nil_sublist _ | exact List.Sublist.refl _ | repeat (first | exact List.Sublist.refl _ | exact List.nil_sublist _ | apply List.Sublist.cons_cons | apply List.Sublist.cons)))) (by kernel_rfl) H13 ?_
      clear H13; intro wx15 H15
      refine htake 0 rfl (by kernel_rfl) (y_move rfl rfl) rfl rfl rfl (fun _ h => (h.sub (by first | exact List.nil_sublist _ | exact List.Sublist.refl _ | repeat (first | exact List.Sublist.refl _ | exact List.nil_sublist _ | apply List.Sublist.cons_cons | apply List.Sublist.cons)))) H15 ?_
      clear H15; intro a16 H16
      refine htake 1 rfl (by kernel_rfl) (y_move rfl rfl) rfl rfl rfl (fun _ h => (h.sub (by first | exact List.nil_sublist _ | exact List.Sublist.refl _ | repeat (first | exact List.Sublist.refl _ | exact List.nil_sublist _ | apply List.Sublist.cons_cons | apply List.Sublist.cons)))) H16 ?_
      clear H16; intro a17 H17
      refine htake 2 rfl (by kernel_rfl) (y_slS_hi rfl Tryd.underlying46 z_size9 rfl rfl (by omega) (by omega) hcl) rfl rfl rfl (fun _ h => (h.sub (by first | exact List.nil_sublist _ | exact List.Sublist.refl _ | repeat (first | exact List.Sublist.refl _ | exact List.nil_sublist _ | apply List.Sublist.cons_cons | apply List.Sublist.cons)))) H17 ?_
      clear H17; intro a18 H18
      refine htake 3 rfl (by kernel_rfl) (y_move rfl rfl) rfl rfl rfl (fun _ h => (h.sub (by first | exact List.nil_sublist _ | exact List.Sublist.refl _ | repeat (first | exact List.Sublist.refl _ | exact List.nil_sublist _ | apply List.Sublist.cons_cons | apply List.Sublist.cons)))) H18 ?_
      clear H18; intro a19 H19
      refine htake 5 rfl (by kernel_rfl) (y_move rfl rfl) rfl rfl rfl (fun _ h => (h.sub (by first | exact List.nil_sublist _ | exact List.Sublist.refl _ | repeat (first | exact List.Sublist.refl _ | exact List.nil_sublist _ | apply List.Sublist.cons_cons | apply List.Sublist.cons)))) H19 ?_
      clear H19; intro a20 H20
      refine htake 6 rfl (by kernel_rfl) (y_move rfl rfl) rfl rfl rfl (fun _ h => (h.sub (by first | exact List.nil_sublist _ | exact List.Sublist.refl _ | repeat (first | exact List.Sublist.refl _ | exact List.nil_sublist _ | apply List.Sublist.cons_cons | apply List.Sublist.cons)))) H20 ?_
      clear H20; intro a21 H21
      refine htake 7 rfl (by kernel_rfl) (y_slS_lo rfl Tryd.underlying46 z_size9 rfl rfl (by omega) (by omega)) rfl rfl rfl (fun _ h => (h.sub (by first | exact List.nil_sublist _ | exact List.Sublist.refl _ | repeat (first | exact List.Sublist.refl _ | exact List.nil_sublist _ | apply List.Sublist.cons_cons | apply List.Sublist.cons)))) H21 ?_
      clear H21; intro a22 H22
      refine hgo 4 rfl (by kernel_rfl) ?_
      refine st_call rfl z_call32 rfl rfl rfl rfl H22 (ih (l.take (Merk.half l.length)) _ _ _ i _ (by rw [List.length_take]; omega) (by rw [List.length_take]; omega) (by omega) (fun x hx => hb x (List.mem_of_mem_take hx)) (by rw [List.length_take]; omega) (by rw [List.length_take]; omega) (by rw [List.map_take]; exact (Rd.frm hR H22.sep.frm (by simp)).take _)) ?_
      clear H22; intro v23 l23 a23 wx23 hf23 H23
      obtain rfl := hf23
      simp only [List.cons_append, List.nil_append] at H23
      obtain ⟨Ap, cp, hvp, hRp, hmp⟩ := row_shape (v := v23) H23.sep (List.Mem.head _)
      subst hvp
      refine hfin (H23.sep.sub (by first | exact List.nil_sublist _ | exact List.Sublist.refl _ | repeat (first | exact List.Sublist.refl _ | exact List.nil_sublist _ | apply List.Sublist.cons_cons | apply List.Sublist.cons))) ?_
      refine hgo 8 rfl (by kernel_rfl) ?_
      refine st_callg rfl z_call30 rfl rfl rfl rfl H23 (rroot (l.drop (Merk.half l.length)) _ _ _ _ (by rw [List.length_drop]; omega) (by omega) (fun x hx => hb x (List.mem_of_mem_drop hx)) (by rw [List.length_drop]; omega) (by rw [List.map_drop, Nat.mul_one]; exact (Rd.frm hR H23.sep.frm (by simp)).drop _ _ (fun h => by rw [List.length_map]; omega))) ?_
      clear H23; intro a24 wx24 H24
      refine hfin (H24.sep.sub (by first | exact List.nil_sublist _ | exact List.Sublist.refl _ | repeat (first | exact List.Sublist.refl _ | exact List.nil_sublist _ | apply List.Sublist.cons_cons | apply List.Sublist.cons))) ?_
      refine hgo 9 rfl (by kernel_rfl) ?_
      refine st_buildSlice rfl Tryd.underlying38 z_size23 z_zero23 rfl rfl rfl (lay_agg (vs := (Merk.root (l.drop (Merk.half l.length))).map u8) rfl (by rw [List.length_map, Merk.root_len]) (by simp)) rfl rfl rfl H24 ?_
      clear H24; intro b25 a25 wx25 H25
      refine hfin (H25.sep.sub (by first | exact List.nil_sublist _ | exact List.Sublist.refl _ | repeat (first | exact List.Sublist.refl _ | exact List.nil_sublist _ | apply List.Sublist.cons_cons | apply List.Sublist.cons))) ?_
      refine hgo 10 rfl (by kernel_rfl) ?_
      refine st_append rfl z_slice38 z_notint38 rfl rfl (fun _ => (by repeat (first | exact Upd.head _ _ _ | apply Upd.tail))) (fun w hs => Src.slice (rd_blkA (List.Mem.head _) w hs) (by rw [List.length_map, Merk.root_len]) (by rw [← hc_one]; exact hc_cell _)) (by unfold maxLen; have := Merk.proof_le (l.take (Merk.half l.length)) i; simp only [List.length_take, List.length_drop] at this; omega) (by have := Merk.proof_le (l.take (Merk.half l.length)) i; simp only [List.length_take, List.length_drop] at this; omega) rfl rfl rfl H25 ?_
      clear H25; intro v26 a26 wx26 hnil26 H26
      refine hfin (H26.sep.sub (by first | exact List.nil_sublist _ | exact List.Sublist.refl _ | repeat (first | exact List.Sublist.refl _ | exact List.nil_sublist _ | apply List.Sublist.cons_cons | apply List.Sublist.cons))) ?_
      refine htake 11 rfl (by kernel_rfl) (y_assign rfl rfl) rfl rfl rfl (fun _ h => (h.sub (by first | exact List.nil_sublist _ | exact List.Sublist.refl _ | repeat (first | exact List.Sublist.refl _ | exact List.nil_sublist _ | apply List.Sublist.cons_cons | apply List.Sublist.cons)))) H26 ?_
      clear H26; intro a27 H27
      refine hdone (by kernel_rfl) ?_
      refine then_n ?_
      refine wp_ret ?_
      refine then_r ?_
      -- return 2
      refine ret1 rfl H27 rfl ?_
      refine ⟨_, _, rfl, ?_, H27.sep.sub (List.Sublist.cons _ (List.Sublist.refl _))⟩
      rw [hps, hc_append, hc_one, List.length_append]
      rfl
    · skip
      have hps := Merk.proof_right (l := l) (i := i) (by omega) (by omega)
      refine wp_skip ?_
      refine then_n ?_
      refine wp_seq ?_
      refine hreg [] (fun _ h => (h.sub (by first | exact List.nil_sublist _ | exact List.Sublist.refl _ | repeat (first | exact List.Sublist.refl _ | exact List.nil_sublist _ | apply List.Sublist.cons_cons | apply List.Sublist.cons)))) (by kernel_rfl) H13 ?_
      clear H13; intro wx28 H28
      refine htake 0 rfl (by kernel_rfl) (y_move rfl rfl) rfl rfl rfl (fun _ h => (h.sub (by first | exact List.nil_sublist _ | exact List.Sublist.refl _ | repeat (first | exact List.Sublist.refl _ | exact List.nil_sublist _ | apply List.Sublist.cons_cons | apply List.Sublist.cons)))) H28 ?_
      clear H28; intro a29 H29
      refine htake 1 rfl (by kernel_rfl) (y_move rfl rfl) rfl rfl rfl (fun _ h => (h.sub (by first | exact List.nil_sublist _ | exact List.Sublist.refl _ | repeat (first | exact List.Sublist.refl _ | exact List.nil_sublist _ | apply List.Sublist.cons_cons | apply List.Sublist.cons)))) H29 ?_
      clear H29; intro a30 H30
      refine htake 2 rfl (by kernel_rfl) (y_slS_lo rfl Tryd.underlying46 z_size9 rfl rfl (by omega) (by omega)) rfl rfl rfl (fun _ h => (h.sub (by first | exact List.nil_sublist _ | exact List.Sublist.refl _ | repeat (first | exact List.Sublist.refl _ | exact List.nil_sublist _ | apply List.Sublist.cons_cons | apply List.Sublist.cons)))) H30 ?_
      clear H30; intro a31 H31
      refine htake 3 rfl (by kernel_rfl) (y_move rfl rfl) rfl rfl rfl (fun _ h => (h.sub (by first | exact List.nil_sublist _ | exact List.Sublist.refl _ | repeat (first | exact List.Sublist.refl _ | exact List.nil_sublist _ | apply List.Sublist.cons_cons | apply List.Sublist.cons)))) H31 ?_
      clear H31; intro a32 H32
      refine htake 4 rfl (by kernel_rfl) (y_move rfl rfl) rfl rfl rfl (fun _ h => (h.sub (by first | exact List.nil_sublist _ | exact List.Sublist.refl _ | repeat (first | exact List.Sublist.refl _ | exact List.nil_sublist _ | apply List.Sublist.cons_cons | apply List.Sublist.cons)))) H32 ?_
      clear H32; intro a33 H33
      refine htake 5 rfl (by kernel_rfl) (y_sub rfl rfl rfl (show IntKind.i64.wrap ((i : Int) - ((Merk.half l.length : Nat) : Int)) = ((i - Merk.half l.length : Nat) : Int) by rw [w64 (by omega) (by omega)]; omega)) rfl rfl rfl (fun _ h => (h.sub (by first | exact List.nil_sublist _ | exact List.Sublist.refl _ | repeat (first | exact List.Sublist.refl _ | exact List.nil_sublist _ | apply List.Sublist.cons_cons | apply List.Sublist.cons)))) H33 ?_
      clear H33; intro a34 H34
      refine htake 7 rfl (by kernel_rfl) (y_move rfl rfl) rfl rfl rfl (fun _ h => (h.sub (by first | exact List.nil_sublist _ | exact List.Sublist.refl _ | repeat (first | exact List.Sublist.refl _ | exact List.nil_sublist _ | apply List.Sublist.cons_cons | apply List.Sublist.cons)))) H34 ?_
      clear H34; intro a35 H35
      refine htake 8 rfl (by kernel_rfl) (y_move rfl rfl) rfl rfl rfl (fun _ h => (h.sub (by first | exact List.nil_sublist _ | exact List.Sublist.refl _ | repeat (first | exact List.Sublist.refl _ | exact List.nil_sublist _ | apply List.Sublist.cons_cons | apply List.Sublist.cons)))) H35 ?_
      clear H35; intro a36 H36
      refine htake 9 rfl (by kernel_rfl) (y_slS_hi rfl Tryd.underlying46 z_size9 rfl rfl (by omega) (by omega) hcl) rfl rfl rfl (fun _ h => (h.sub (by first | exact List.nil_sublist _ | exact List.Sublist.refl _ | repeat (first | exact List.Sublist.refl _ | exact List.nil_sublist _ | apply List.Sublist.cons_cons | apply List.Sublist.cons)))) H36 ?_
      clear H36; intro a37 H37
      refine hgo 6 rfl (by kernel_rfl) ?_
      refine st_call rfl z_call32 rfl rfl rfl rfl H37 (ih (l.drop (Merk.half l.length)) _ _ _ (i - Merk.half l.length) _ (by rw [List.length_drop]; omega) (by rw [List.length_drop]; omega) (by omega) (fun x hx => hb x (List.mem_of_mem_drop hx)) (by rw [List.length_drop]; omega) (by rw [List.length_drop]; omega) (by rw [List.map_drop, Nat.mul_one]; exact (Rd.frm hR H37.sep.frm (by simp)).drop _ _ (fun h => by rw [List.length_map]; omega))) ?_
      clear H37; intro v38 l38 a38 wx38 hf38 H38
      obtain rfl := hf38
      simp only [List.cons_append, List.nil_append] at H38
      obtain ⟨Ap, cp, hvp, hRp, hmp⟩ := row_shape (v := v38) H38.sep (List.Mem.head _)
      subst hvp
      refine hfin (H38.sep.sub (by first | exact List.nil_sublist _ | exact List.Sublist.refl _ | repeat (first | exact List.Sublist.refl _ | exact List.nil_sublist _ | apply List.Sublist.cons_cons | apply List.Sublist.cons))) ?_
      refine hgo 10 rfl (by kernel_rfl) ?_
      refine st_callg rfl z_call30 rfl rfl rfl rfl H38 (rroot (l.take (Merk.half l.length)) _ _ _ _ (by rw [List.length_take]; omega) (by omega) (fun x hx => hb x (List.mem_of_mem_take hx)) (by rw [List.length_take]; omega) (by rw [List.map_take]; exact (Rd.frm hR H38.sep.frm (by simp)).take _)) ?_
      clear H38; intro a39 wx39 H39
      refine hfin (H39.sep.sub (by first | exact List.nil_sublist _ | exact List.Sublist.refl _ | repeat (first | exact List.Sublist.refl _ | exact List.nil_sublist _ | apply List.Sublist.cons_cons | apply List.Sublist.cons))) ?_
      refine hgo 11 rfl (by kernel_rfl) ?_
      refine st_buildSlice rfl Tryd.underlying38 z_size23 z_zero23 rfl rfl rfl (lay_agg (vs := (Merk.root (l.take (Merk.half l.length))).map u8) rfl (by rw [List.length_map, Merk.root_len]) (by simp)) rfl rfl rfl H39 ?_
      clear H39; intro b40 a40 wx40 H40
      refine hfin (H40.sep.sub (by first | exact List.nil_sublist _ | exact List.Sublist.refl _ | repeat (first | exact List.Sublist.refl _ | exact List.nil_sublist _ | apply List.Sublist.cons_cons | apply List.Sublist.cons))) ?_
      refine hgo 12 rfl (by kernel_rfl) ?_
      refine st_append rfl z_slice38 z_notint38 rfl rfl (fun _ => (by repeat (first | exact Upd.head _ _ _ | apply Upd.tail))) (fun w hs => Src.slice (rd_blkA (List.Mem.head _) w hs) (by rw [List.length_map, Merk.root_len]) (by rw [← hc_one]; exact hc_cell _)) (by unfold maxLen; have := Merk.proof_le (l.drop (Merk.half l.length)) (i - Merk.half l.length); simp only [List.length_take, List.length_drop] at this; omega) (by have := Merk.proof_le (l.drop (Merk.half l.length)) (i - Merk.half l.length); simp only [List.length_take, List.length_drop] at this; omega) rfl rfl rfl H40 ?_
      clear H40; intro v41 a41 wx41 hnil41 H41
      refine hfin (H41.sep.sub (by first | exact List.nil_sublist _ | exact List.Sublist.refl _ | repeat (first | exact List.Sublist.refl _ | exact List.nil_sublist _ | apply List.Sublist.cons_cons | apply List.Sublist.cons))) ?_
      refine htake 13 rfl (by kernel_rfl) (y_assign rfl rfl) rfl rfl rfl (fun _ h => (h.sub (by first | exact List.nil_sublist _ | exact List.Sublist.refl _ | repeat (first | exact List.Sublist.refl _ | exact List.nil_sublist _ | apply List.Sublist.cons_cons | apply List.Sublist.cons)))) H41 ?_
      clear H41; intro a42 H42
      refine hdone (by kernel_rfl) ?_
      refine then_n ?_
      refine wp_ret ?_
      -- return 3
      refine ret1 rfl H42 rfl ?_
      refine ⟨_, _, rfl, ?_, H42.sep.sub (List.Sublist.cons _ (List.Sublist.refl _))⟩
      rw [hps, hc_append, hc_one, List.length_append]
      rfl
theorem rproof : ∀ (l : List (List UInt8)) (A : Option Addr) (m c i : Nat) (w : World),  m = l.length → m ≤ c → (∀ x ∈ l, x.length ≤ 140737488351232) → l.length ≤ 1000000 → i < l.length → Rd w A (l.map str) → Calls Tryd.prog 32 #[.slice A m c, .int .i64 (i : Int)] w (Post [] w (fun u l' => l' = [It.row 23 32 u (Merk.proof l i).length (hc (Merk.proof l i))])) := by
  have key : ∀ (N : Nat) (l : List (List UInt8)) (A : Option Addr) (m c i : Nat) (w : World), l.length = N → m = l.length → m ≤ c → (∀ x ∈ l, x.length ≤ 140737488351232) → l.length ≤ 1000000 → i < l.length → Rd w A (l.map str) → Calls Tryd.prog 32 #[.slice A m c, .int .i64 (i : Int)] w (Post [] w (fun u l' => l' = [It.row 23 32 u (Merk.proof l i).length (hc (Merk.proof l i))])) := by
    intro N
    induction N using Nat.strongRecOn with
    | _ N ih =>
      intro l A m c i w hN hm hc hb hl hi hR
      subst hm
      exact rproofS N (fun l' A' m' c' i' w' h1 h2 h3 h4 h5 h6 h7 => ih l'.length (by omega) l' A' m' c' i' w' rfl h2 h3 h4 h5 h6 h7) l A c i hN hc hb hl hi hR
  exact fun l A m c i w => key l.length l A m c i w rfl
set_option maxRecDepth 100000 in
set_option maxHeartbeats 1000000 in
theorem sameH (x y : List (List UInt8)) (A B : Option Addr) (m m2 c c2 : Nat) (hm : m = x.length) (hm2 : m2 = y.length) (hx : H32 x) (hy : H32 y) {w : World} (hA : Rd w A (hc x)) (hB : Rd w B (hc y)) (hl : x.length ≤ 1000000) : Calls Tryd.prog 31 #[.slice A m c, .slice B m2 c2] w (Gives (.bool (decide (x = y))) [] w) := by
  subst hm hm2
  refine enterL (args := [.slice A x.length c, .slice B y.length c2]) Tryd.func31 rfl rfl (l := []) (Sep.refl _) ?_
  intro a0 H0
  refine wp_seq ?_
  refine reg ?_
  refine plain (y_assign rfl rfl) rfl rfl rfl H0 ?_
  clear H0; intro a1 H1
  refine fin ?_
  refine then_n ?_
  refine wp_seq ?_
  refine wp_seq ?_
  refine reg ?_
  refine plain (y_move rfl rfl) rfl rfl rfl H1 ?_
  clear H1; intro a2 H2
  refine plain (y_len rfl Tryd.underlying38 rfl) rfl rfl rfl H2 ?_
  clear H2; intro a3 H3
  refine plain (y_move rfl rfl) rfl rfl rfl H3 ?_
  clear H3; intro a4 H4
  refine plain (y_len rfl Tryd.underlying38 rfl) rfl rfl rfl H4 ?_
  clear H4; intro a5 H5
  refine plain (y_neq rfl rfl rfl) rfl rfl rfl H5 ?_
  clear H5; intro a6 H6
  refine fin ?_
  refine then_n ?_
  refine cnd_d H6 rfl (fun hc7 => ?_) (fun hc7 => ?_) -- cond 1
  · skip
    refine wp_seq ?_
    refine reg ?_
    refine plain (y_assign rfl rfl) rfl rfl rfl H6 ?_
    clear H6; intro a8 H8
    refine fin ?_
    refine then_n ?_
    refine wp_ret ?_
    refine then_r ?_
    -- return 1
    refine ret1 rfl H8 rfl ?_
    exact ⟨_, [], rfl, ⟨by rw [decide_eq_false (fun e => by subst e; omega)], rfl⟩, H8.sep.sub (List.nil_sublist _)⟩
  · skip
    refine wp_skip ?_
    refine then_n ?_
    refine wp_seq ?_
    refine wp_seq ?_
    refine reg ?_
    refine plain (y_assign rfl rfl) rfl rfl rfl H6 ?_
    clear H6; intro a9 H9
    refine fin ?_
    refine then_n ?_
    refine wp_block ?_
    have hlen : x.length = y.length := by omega
    refine loop (ι := Nat) (fun k => [(0, .slice A x.length c), (1, .slice B y.length c2), (5, .int .i64 (k : Int))]) (fun k => []) (fun k => k ≤ x.length ∧ x.take k = y.take k) (fun k => x.length - k) (0) (by simp) (H9.weak ⟨rfl, rfl, rfl, trivial⟩ rfl) ?_
    clear H9; intro k a10 wx10 hok10 H10
    have hok := hok10
    refine wp_seq ?_
    refine wp_seq ?_
    refine reg ?_
    refine plain (y_move rfl rfl) rfl rfl rfl H10 ?_
    clear H10; intro a11 H11
    refine plain (y_move rfl rfl) rfl rfl rfl H11 ?_
    clear H11; intro a12 H12
    refine plain (y_len rfl Tryd.underlying38 rfl) rfl rfl rfl H12 ?_
    clear H12; intro a13 H13
    refine plain (y_lss rfl rfl rfl) rfl rfl rfl H13 ?_
    clear H13; intro a14 H14
    refine fin ?_
    refine then_n ?_
    refine cnd_d H14 rfl (fun hc15 => ?_) (fun hc15 => ?_) -- cond 2
    · skip
      refine wp_skip ?_
      refine then_n ?_
      refine wp_seq ?_
      refine wp_block ?_
      refine wp_seq ?_
      refine qreg (by kernel_rfl) (by kernel_rfl) H14 ?_
      have F16 := H14.fr
      clear H14
      refine qplain (y_move rfl rfl) rfl rfl rfl F16 ?_
      clear F16; intro a17 H17
      refine qplain (y_move rfl rfl) rfl rfl rfl H17 ?_
      clear H17; intro a18 H18
      refine qplain (y_ixR rfl Tryd.underlying38 z_size23 rfl rfl (by omega) (by omega) (rd_old (by assumption) (by simp)) (by first | (rw [hc_len hx]; omega) | (rw [hc_len hy]; omega))) rfl rfl rfl H18 ?_
      clear H18; intro a19 H19
      refine qplain (y_loadAS rfl z_agg23 z_size23 rfl (rd_old (by assumption) (by simp)) (hc_take k hx (by omega)) (by rw [List.length_map, hx.getD (by omega)]) (by decide)) rfl rfl rfl H19 ?_
      clear H19; intro a20 H20
      refine qplain (y_move rfl rfl) rfl rfl rfl H20 ?_
      clear H20; intro a21 H21
      refine qplain (y_move rfl rfl) rfl rfl rfl H21 ?_
      clear H21; intro a22 H22
      refine qplain (y_ixR rfl Tryd.underlying38 z_size23 rfl rfl (by omega) (by omega) (rd_old (by assumption) (by simp)) (by first | (rw [hc_len hx]; omega) | (rw [hc_len hy]; omega))) rfl rfl rfl H22 ?_
      clear H22; intro a23 H23
      refine qplain (y_loadAS rfl z_agg23 z_size23 rfl (rd_old (by assumption) (by simp)) (hc_take k hy (by omega)) (by rw [List.length_map, hy.getD (by omega)]) (by decide)) rfl rfl rfl H23 ?_
      clear H23; intro a24 H24
      refine qplain (y_hneq rfl Tryd.eqGuardType23 Tryd.underlying23 Tryd.underlying5 z_size5 rfl rfl (hx.getD (by omega)) (hy.getD (by omega))) rfl rfl rfl H24 ?_
      clear H24; intro a25 H25
      refine qfin H25 ?_
      clear H25; intro wx26 H26
      refine then_n ?_
      refine cnd_d H26 rfl (fun hc27 => ?_) (fun hc27 => ?_) -- cond 3
      · skip
        refine wp_seq ?_
        refine reg ?_
        refine plain (y_assign rfl rfl) rfl rfl rfl H26 ?_
        clear H26; intro a28 H28
        refine fin ?_
        refine then_n ?_
        refine wp_ret ?_
        refine inb_r ?_
        refine then_r ?_
        refine then_r ?_
        refine inb_r ?_
        refine then_r ?_
        -- return 2
        refine ret1 rfl H28 rfl ?_
        exact ⟨_, [], rfl, ⟨by rw [decide_eq_false (Oct.getD_ne [] (by assumption))], rfl⟩, H28.sep.sub (List.nil_sublist _)⟩
      · skip
        refine wp_skip ?_
        refine inb_n ?_
        refine then_n ?_
        refine reg ?_
        refine plain (y_move rfl rfl) rfl rfl rfl H26 ?_
        clear H26; intro a29 H29
        refine plain (y_add rfl rfl rfl (by first | exact w64 (by omega) (by omega) | rfl)) rfl rfl rfl H29 ?_
        clear H29; intro a30 H30
        refine plain (y_assign rfl rfl) rfl rfl rfl H30 ?_
        clear H30; intro a31 H31
        refine fin ?_
        refine then_n ?_
        refine ⟨k + 1, by omega, ⟨by omega, Oct.take_eq_succ [] (by omega) (by omega) hok.2 (Decidable.not_not.1 (by assumption))⟩, H31.weak ⟨rfl, rfl, fi rfl (by omega), trivial⟩ rfl⟩
    · skip
      refine wp_exit ?_
      refine then_x ?_
      refine then_x ?_
      refine inb_hit ?_
      refine then_n ?_
      refine wp_seq ?_
      refine reg ?_
      refine plain (y_assign rfl rfl) rfl rfl rfl H14 ?_
      clear H14; intro a32 H32
      refine fin ?_
      refine then_n ?_
      refine wp_ret ?_
      -- return 3
      refine ret1 rfl H32 rfl ?_
      exact ⟨_, [], rfl, ⟨by rw [decide_eq_true (Oct.eq_of_take hlen (by omega) hok.2)], rfl⟩, H32.sep.sub (List.nil_sublist _)⟩
set_option maxRecDepth 100000 in
set_option maxHeartbeats 1000000 in
theorem dfew (l : List (List UInt8)) (A : Option Addr) (m c : Nat) (hm : m = l.length) (hcl : l.length ≤ c) (hl : l.length ≤ 9223372036854775807) (w : World) : Calls Tryd.prog 27 #[.slice A m c] w (Gives (.slice A (l.take 100).length c) [] w) := by
  subst hm
  refine enterL (args := [.slice A l.length c]) Tryd.func27 rfl rfl (l := []) (Sep.refl _) ?_
  intro a0 H0
  refine wp_seq ?_
  refine reg ?_
  refine plain (y_assign rfl rfl) rfl rfl rfl H0 ?_
  clear H0; intro a1 H1
  refine fin ?_
  refine then_n ?_
  refine wp_seq ?_
  refine wp_seq ?_
  refine reg ?_
  refine plain (y_move rfl rfl) rfl rfl rfl H1 ?_
  clear H1; intro a2 H2
  refine plain (y_len rfl Tryd.underlying46 rfl) rfl rfl rfl H2 ?_
  clear H2; intro a3 H3
  refine plain (y_gtr rfl rfl rfl) rfl rfl rfl H3 ?_
  clear H3; intro a4 H4
  refine fin ?_
  refine then_n ?_
  refine cnd_d H4 rfl (fun hc5 => ?_) (fun hc5 => ?_) -- cond 1
  · skip
    refine wp_seq ?_
    refine reg ?_
    refine plain (y_move rfl rfl) rfl rfl rfl H4 ?_
    clear H4; intro a6 H6
    refine plain (y_slS_hi rfl Tryd.underlying46 z_size9 rfl rfl (by omega) (by omega) hcl) rfl rfl rfl H6 ?_
    clear H6; intro a7 H7
    refine plain (y_assign rfl rfl) rfl rfl rfl H7 ?_
    clear H7; intro a8 H8
    refine fin ?_
    refine then_n ?_
    refine wp_ret ?_
    refine then_r ?_
    -- return 1
    refine ret1 rfl H8 rfl ?_
    exact ⟨_, [], rfl, ⟨by rw [List.length_take]; congr 1; omega, rfl⟩, H8.sep.sub (List.nil_sublist _)⟩
  · skip
    refine wp_skip ?_
    refine then_n ?_
    refine wp_seq ?_
    refine reg ?_
    refine plain (y_move rfl rfl) rfl rfl rfl H4 ?_
    clear H4; intro a9 H9
    refine plain (y_assign rfl rfl) rfl rfl rfl H9 ?_
    clear H9; intro a10 H10
    refine fin ?_
    refine then_n ?_
    refine wp_ret ?_
    -- return 2
    refine ret1 rfl H10 rfl ?_
    exact ⟨_, [], rfl, ⟨by rw [List.length_take]; congr 1; omega, rfl⟩, H10.sep.sub (List.nil_sublist _)⟩

end Go.Proofs.YtbadncpjbdfinaaDoor.D_RProof
