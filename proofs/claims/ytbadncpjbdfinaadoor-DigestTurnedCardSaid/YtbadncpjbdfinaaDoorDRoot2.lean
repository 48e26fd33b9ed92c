/- Part of a proof about given Go functions: contracts of functions, or plain laws. -/
import Derived.Test.YtbadncpjbdfinaaDoorSxW
import Derived.Test.YtbadncpjbdfinaaDoorSxI
import Derived.Test.YtbadncpjbdfinaaDoorSha
import Derived.Test.YtbadncpjbdfinaaDoorShaAbc
import Derived.Test.YtbadncpjbdfinaaDoorSxX
import Derived.Test.YtbadncpjbdfinaaDoorSxY
import Derived.Test.YtbadncpjbdfinaaDoorMerk
import Derived.Test.YtbadncpjbdfinaaDoorProg
import Derived.Test.YtbadncpjbdfinaaDoorDBlock
import Derived.Test.YtbadncpjbdfinaaDoorDSum
import Derived.Test.YtbadncpjbdfinaaDoorDRef
import Derived.Test.YtbadncpjbdfinaaDoorDRSum
import Derived.Test.YtbadncpjbdfinaaDoorDLeaf
import Derived.Test.YtbadncpjbdfinaaDoorDRoot
set_option linter.unusedVariables false
set_option linter.unusedSimpArgs false
namespace Go.Proofs.YtbadncpjbdfinaaDoor.D_Root2
open Go.Sx Go.RowKit Go.Proofs.YtbadncpjbdfinaaDoor.D_Block Go.Proofs.YtbadncpjbdfinaaDoor.D_Sum Go.Proofs.YtbadncpjbdfinaaDoor.D_Ref Go.Proofs.YtbadncpjbdfinaaDoor.D_RSum Go.Proofs.YtbadncpjbdfinaaDoor.D_Leaf Go.Proofs.YtbadncpjbdfinaaDoor.D_Root

theorem z_zero23 : zeroL Tryd.prog 23 = some (List.replicate 32 (.int .u8 0)) := by kernel_rfl
theorem z_call22 : callB Tryd.prog 22 = true := by kernel_rfl
theorem z_size23 : sizeB Tryd.prog 23 = some 32 := by kernel_rfl
theorem z_agg23 : aggB Tryd.prog 23 = some true := by kernel_rfl
theorem z_size9 : sizeB Tryd.prog 9 = some 1 := by kernel_rfl
theorem z_agg9 : aggB Tryd.prog 9 = some false := by kernel_rfl
theorem z_call44 : callB Tryd.prog 44 = true := by kernel_rfl
theorem z_call30 : callB Tryd.prog 30 = true := by kernel_rfl
theorem z_call34 : callB Tryd.prog 34 = true := by kernel_rfl

theorem droot : ∀ (l : List (List UInt8)) (A : Option Addr) (m c : Nat) (w : World),  m = l.length → m ≤ c → (∀ x ∈ l, x.length ≤ 140737488351232) → l.length ≤ 9223372036854775807 → Rd w A (l.map str) → Glob 0 Sha.K w → Calls Tryd.prog 29 #[.slice A m c] w (Gives (.agg ((Merk.root l).map u8).toArray) [] w) := by
  have key : ∀ (N : Nat) (l : List (List UInt8)) (A : Option Addr) (m c : Nat) (w : World), l.length = N → m = l.length → m ≤ c → (∀ x ∈ l, x.length ≤ 140737488351232) → l.length ≤ 9223372036854775807 → Rd w A (l.map str) → Glob 0 Sha.K w → Calls Tryd.prog 29 #[.slice A m c] w (Gives (.agg ((Merk.root l).map u8).toArray) [] w) := by
    intro N
    induction N using Nat.strongRecOn with
    | _ N ih =>
      intro l A m c w hN hm hc hb hl hR hG
      subst hm
      exact drootS N (fun l' A' m' c' w' h1 h2 h3 h4 h5 h6 h7 => ih l'.length (by omega) l' A' m' c' w' rfl h2 h3 h4 h5 h6 h7) l A c hN hc hb hl hR hG
  exact fun l A m c w => key l.length l A m c w rfl
set_option maxRecDepth 100000 in
set_option maxHeartbeats 2000000 in
theorem rrootS (N : Nat) (ih : ∀ (l : List (List UInt8)) (A : Option Addr) (m c : Nat) (w : World), l.length < N → m = l.length → m ≤ c → (∀ x ∈ l, x.length ≤ 140737488351232) → l.length ≤ 9223372036854775807 → Rd w A (l.map str) →  Calls Tryd.prog 30 #[.slice A m c] w (Gives (.agg ((Merk.root l).map u8).toArray) [] w)) (l : List (List UInt8)) (A : Option Addr) (c : Nat) (hN : l.length = N) (hc : l.length ≤ c) (hb : ∀ x ∈ l, x.length ≤ 140737488351232) (hl : l.length ≤ 9223372036854775807) {w : World} (hR : Rd w A (l.map str)) : Calls Tryd.prog 30 #[.slice A l.length c] w (Gives (.agg ((Merk.root l).map u8).toArray) [] w) := by
  refine enterL (args := [.slice A l.length c]) Tryd.func30 rfl rfl (l := []) (Sep.refl _) ?_
  intro a0 H0
  refine wp_seq ?_
  refine reg ?_
  refine st_alloc rfl z_zero23 rfl rfl rfl H0 ?_
  clear H0; intro b1 a1 wx1 H1
  refine fin ?_
  refine then_n ?_
  refine wp_seq ?_
  refine wp_seq ?_
  refine reg ?_
  refine plain (y_move rfl rfl) rfl rfl rfl H1 ?_
  clear H1; intro a2 H2
  refine plain (y_len rfl Tryd.underlying46 rfl) rfl rfl rfl H2 ?_
  clear H2; intro a3 H3
  refine plain (y_eql rfl rfl rfl) rfl rfl rfl H3 ?_
  clear H3; intro a4 H4
  refine fin ?_
  refine then_n ?_
  refine cnd_d H4 rfl (fun hc5 => ?_) (fun hc5 => ?_) -- cond 1
  · skip
    have h0 : l = [] := List.eq_nil_of_length_eq_zero (by omega)
    refine wp_seq ?_
    refine reg ?_
    refine st_callg rfl z_call22 rfl rfl rfl rfl H4 (rsum [] (by decide) _) ?_
    clear H4; intro a6 wx6 H6
    refine st_store (vs := _) rfl z_size23 rfl rfl (show _ = List.map u8 _ from rfl) (one_u8 _) (by rw [List.length_map, Sha.sum_length]) (by repeat (first | exact Upd.head _ _ _ | apply Upd.tail)) (by decide) rfl rfl H6 ?_
    clear H6; intro wx7 H7
    refine fin ?_
    refine then_n ?_
    refine wp_ret ?_
    refine then_r ?_
    -- return 1
    refine retc rfl H7 rfl z_agg23 z_size23 (by repeat (first | exact List.Mem.head _ | apply List.Mem.tail)) (by rw [spl_all (by rw [List.length_map, Sha.sum_length]; rfl), List.length_map, Sha.sum_length]) ?_
    refine ⟨_, [], rfl, ⟨?_, rfl⟩, H7.sep.sub (List.nil_sublist _)⟩
    rw [spl_all (by rw [List.length_map, Sha.sum_length]; rfl), h0, Merk.root_nil]
    try rfl
  · skip
    refine wp_skip ?_
    refine then_n ?_
    refine wp_seq ?_
    refine wp_seq ?_
    refine reg ?_
    refine plain (y_move rfl rfl) rfl rfl rfl H4 ?_
    clear H4; intro a8 H8
    refine plain (y_len rfl Tryd.underlying46 rfl) rfl rfl rfl H8 ?_
    clear H8; intro a9 H9
    refine plain (y_eql rfl rfl rfl) rfl rfl rfl H9 ?_
    clear H9; intro a10 H10
    refine fin ?_
    refine then_n ?_
    refine cnd_d H10 rfl (fun hc11 => ?_) (fun hc11 => ?_) -- cond 2
    · skip
      obtain ⟨x, h0⟩ : ∃ x, l = [x] := by match l, (show l.length = 1 by omega) with | [x], _ => exact ⟨x, rfl⟩
      refine wp_seq ?_
      refine reg ?_
      refine plain (y_move rfl rfl) rfl rfl rfl H10 ?_
      clear H10; intro a12 H12
      refine plain (y_ixR rfl Tryd.underlying46 z_size9 rfl rfl (by omega) (by omega) (rd_old (by assumption) (by simp)) (by rw [List.length_map]; omega)) rfl rfl rfl H12 ?_
      clear H12; intro a13 H13
      refine plain (y_loadR rfl z_agg9 rfl (rd_old (by assumption) (by simp)) (map_get str l 0 [] (by omega))) rfl rfl rfl H13 ?_
      clear H13; intro a14 H14
      refine plain (y_sadd rfl rfl rfl (by have := hb (l.getD 0 []) (by rw [Oct.getD_eq [] (by omega)]; exact List.getElem_mem _); simp only [List.length_cons, List.length_nil]; omega)) rfl rfl rfl H14 ?_
      clear H14; intro a15 H15
      refine st_callg rfl z_call22 rfl rfl rfl rfl H15 (rsum _ (by have := hb (l.getD 0 []) (by rw [Oct.getD_eq [] (by omega)]; exact List.getElem_mem _); simp only [List.length_append, List.length_cons, List.length_nil]; simp only [Int.toNat] at *; omega) _) ?_
      clear H15; intro a16 wx16 H16
      refine st_store (vs := _) rfl z_size23 rfl rfl (show _ = List.map u8 _ from rfl) (one_u8 _) (by rw [List.length_map, Sha.sum_length]) (by repeat (first | exact Upd.head _ _ _ | apply Upd.tail)) (by decide) rfl rfl H16 ?_
      clear H16; intro wx17 H17
      refine fin ?_
      refine then_n ?_
      refine wp_ret ?_
      refine then_r ?_
      -- return 2
      refine retc rfl H17 rfl z_agg23 z_size23 (by repeat (first | exact List.Mem.head _ | apply List.Mem.tail)) (by rw [spl_all (by rw [List.length_map, Sha.sum_length]; rfl), List.length_map, Sha.sum_length]) ?_
      refine ⟨_, [], rfl, ⟨?_, rfl⟩, H17.sep.sub (List.nil_sublist _)⟩
      rw [spl_all (by rw [List.length_map, Sha.sum_length]; rfl), h0, Merk.root_one]
      try rfl
    · skip
      have hhl := Merk.half_lt (n := l.length) (by omega)
      refine wp_skip ?_
      refine then_n ?_
      refine wp_seq ?_
      refine reg ?_
      refine plain (y_move rfl rfl) rfl rfl rfl H10 ?_
      clear H10; intro a18 H18
      refine plain (y_len rfl Tryd.underlying46 rfl) rfl rfl rfl H18 ?_
      clear H18; intro a19 H19
      refine st_callg rfl z_call44 rfl rfl rfl rfl H19 (rhalf l.length (by omega) hl _) ?_
      clear H19; intro a20 wx20 H20
      refine plain (y_assign rfl rfl) rfl rfl rfl H20 ?_
      clear H20; intro a21 H21
      refine fin ?_
      refine then_n ?_
      refine wp_seq ?_
      refine hreg [] (fun _ h => (h.sub (by first | exact List.nil_sublist _ | exact List.Sublist.refl _ | repeat (first | exact List.Sublist.refl _ | exact List.nil_sublist _ | apply List.Sublist.cons_cons | apply List.Sublist.cons)))) (by kernel_rfl) H21 ?_
      clear H21; intro wx22 H22
      refine htake 0 rfl (by kernel_rfl) (y_move rfl rfl) rfl rfl rfl (fun _ h => (h.sub (by first | exact List.nil_sublist _ | exact List.Sublist.refl _ | repeat (first | exact List.Sublist.refl _ | exact List.nil_sublist _ | apply List.Sublist.cons_cons | apply List.Sublist.cons)))) H22 ?_
      clear H22; intro a23 H23
      refine htake 1 rfl (by kernel_rfl) (y_move rfl rfl) rfl rfl rfl (fun _ h => (h.sub (by first | exact List.nil_sublist _ | exact List.Sublist.refl _ | repeat (first | exact List.Sublist.refl _ | exact List.nil_sublist _ | apply List.Sublist.cons_cons | apply List.Sublist.cons)))) H23 ?_
      clear H23; intro a24 H24
      refine htake 2 rfl (by kernel_rfl) (y_slS_hi rfl Tryd.underlying46 z_size9 rfl rfl (by omega) (by omega) hc) rfl rfl rfl (fun _ h => (h.sub (by first | exact List.nil_sublist _ | exact List.Sublist.refl _ | repeat (first | exact List.Sublist.refl _ | exact List.nil_sublist _ | apply List.Sublist.cons_cons | apply List.Sublist.cons)))) H24 ?_
      clear H24; intro a25 H25
      refine htake 6 rfl (by kernel_rfl) (y_move rfl rfl) rfl rfl rfl (fun _ h => (h.sub (by first | exact List.nil_sublist _ | exact List.Sublist.refl _ | repeat (first | exact List.Sublist.refl _ | exact List.nil_sublist _ | apply List.Sublist.cons_cons | apply List.Sublist.cons)))) H25 ?_
      clear H25; intro a26 H26
      refine htake 7 rfl (by kernel_rfl) (y_move rfl rfl) rfl rfl rfl (fun _ h => (h.sub (by first | exact List.nil_sublist _ | exact List.Sublist.refl _ | repeat (first | exact List.Sublist.refl _ | exact List.nil_sublist _ | apply List.Sublist.cons_cons | apply List.Sublist.cons)))) H26 ?_
      clear H26; intro a27 H27
      refine htake 8 rfl (by kernel_rfl) (y_slS_lo rfl Tryd.underlying46 z_size9 rfl rfl (by omega) (by omega)) rfl rfl rfl (fun _ h => (h.sub (by first | exact List.nil_sublist _ | exact List.Sublist.refl _ | repeat (first | exact List.Sublist.refl _ | exact List.nil_sublist _ | apply List.Sublist.cons_cons | apply List.Sublist.cons)))) H27 ?_
      clear H27; intro a28 H28
      refine hgo 3 rfl (by kernel_rfl) ?_
      refine st_callg rfl z_call30 rfl rfl rfl rfl H28 (ih (l.take (Merk.half l.length)) _ _ _ _ (by rw [List.length_take]; omega) (by rw [List.length_take]; omega) (by omega) (fun x hx => hb x (List.mem_of_mem_take hx)) (by rw [List.length_take]; omega) (by rw [List.map_take]; exact (Rd.frm hR H28.sep.frm (by simp)).take _)) ?_
      clear H28; intro a29 wx29 H29
      refine hfin (H29.sep.sub (by first | exact List.nil_sublist _ | exact List.Sublist.refl _ | repeat (first | exact List.Sublist.refl _ | exact List.nil_sublist _ | apply List.Sublist.cons_cons | apply List.Sublist.cons))) ?_
      refine hgo 4 rfl (by kernel_rfl) ?_
      refine st_callg rfl z_call34 rfl rfl rfl rfl H29 (rbytes _ (Merk.root_len _) _) ?_
      clear H29; intro a30 wx30 H30
      refine hfin (H30.sep.sub (by first | exact List.nil_sublist _ | exact List.Sublist.refl _ | repeat (first | exact List.Sublist.refl _ | exact List.nil_sublist _ | apply List.Sublist.cons_cons | apply List.Sublist.cons))) ?_
      refine htake 5 rfl (by kernel_rfl) (y_sadd rfl rfl rfl (by simp only [List.length_cons, List.length_nil, Merk.root_len]; omega)) rfl rfl rfl (fun _ h => (h.sub (by first | exact List.nil_sublist _ | exact List.Sublist.refl _ | repeat (first | exact List.Sublist.refl _ | exact List.nil_sublist _ | apply List.Sublist.cons_cons | apply List.Sublist.cons)))) H30 ?_
      clear H30; intro a31 H31
      refine hgo 9 rfl (by kernel_rfl) ?_
      refine st_callg rfl z_call30 rfl rfl rfl rfl H31 (ih (l.drop (Merk.half l.length)) _ _ _ _ (by rw [List.length_drop]; omega) (by rw [List.length_drop]; omega) (by omega) (fun x hx => hb x (List.mem_of_mem_drop hx)) (by rw [List.length_drop]; omega) (by rw [List.map_drop, Nat.mul_one]; exact (Rd.frm hR H31.sep.frm (by simp)).drop _ _ (fun h => by rw [List.length_map]; omega))) ?_
      clear H31; intro a32 wx32 H32
      refine hfin (H32.sep.sub (by first | exact List.nil_sublist _ | exact List.Sublist.refl _ | repeat (first | exact List.Sublist.refl _ | exact List.nil_sublist _ | apply List.Sublist.cons_cons | apply List.Sublist.cons))) ?_
      refine hgo 10 rfl (by kernel_rfl) ?_
      refine st_callg rfl z_call34 rfl rfl rfl rfl H32 (rbytes _ (Merk.root_len _) _) ?_
      clear H32; intro a33 wx33 H33
      refine hfin (H33.sep.sub (by first | exact List.nil_sublist _ | exact List.Sublist.refl _ | repeat (first | exact List.Sublist.refl _ | exact List.nil_sublist _ | apply List.Sublist.cons_cons | apply List.Sublist.cons))) ?_
      refine htake 11 rfl (by kernel_rfl) (y_sadd rfl rfl rfl (by simp only [List.length_append, List.length_cons, List.length_nil, Merk.root_len]; omega)) rfl rfl rfl (fun _ h => (h.sub (by first | exact List.nil_sublist _ | exact List.Sublist.refl _ | repeat (first | exact List.Sublist.refl _ | exact List.nil_sublist _ | apply List.Sublist.cons_cons | apply List.Sublist.cons)))) H33 ?_
      clear H33; intro a34 H34
      refine hgo 12 rfl (by kernel_rfl) ?_
      refine st_callg rfl z_call22 rfl rfl rfl rfl H34 (rsum _ (by simp only [List.length_append, List.length_cons, List.length_nil, Merk.root_len]; omega) _) ?_
      clear H34; intro a35 wx35 H35
      refine hfin (H35.sep.sub (by first | exact List.nil_sublist _ | exact List.Sublist.refl _ | repeat (first | exact List.Sublist.refl _ | exact List.nil_sublist _ | apply List.Sublist.cons_cons | apply List.Sublist.cons))) ?_
      refine hgo 13 rfl (by kernel_rfl) ?_
      refine st_store (vs := _) rfl z_size23 rfl rfl (show _ = List.map u8 _ from rfl) (one_u8 _) (by rw [List.length_map, Sha.sum_length]) (by repeat (first | exact Upd.head _ _ _ | apply Upd.tail)) (by decide) rfl rfl H35 ?_
      clear H35; intro wx36 H36
      refine hfin (H36.sep.sub (by first | exact List.nil_sublist _ | exact List.Sublist.refl _ | repeat (first | exact List.Sublist.refl _ | exact List.nil_sublist _ | apply List.Sublist.cons_cons | apply List.Sublist.cons))) ?_
      refine hdone (by kernel_rfl) ?_
      refine then_n ?_
      refine wp_ret ?_
      -- return 3
      refine retc rfl H36 rfl z_agg23 z_size23 (by repeat (first | exact List.Mem.head _ | apply List.Mem.tail)) (by rw [spl_all (by rw [List.length_map, Sha.sum_length]; rfl), List.length_map, Sha.sum_length]) ?_
      refine ⟨_, [], rfl, ⟨?_, rfl⟩, H36.sep.sub (List.nil_sublist _)⟩
      rw [spl_all (by rw [List.length_map, Sha.sum_length]; rfl), Merk.root_more (l := l) (by omega)]
      try rfl
theorem rroot : ∀ (l : List (List UInt8)) (A : Option Addr) (m c : Nat) (w : World),  m = l.length → m ≤ c → (∀ x ∈ l, x.length ≤ 140737488351232) → l.length ≤ 9223372036854775807 → Rd w A (l.map str) → Calls Tryd.prog 30 #[.slice A m c] w (Gives (.agg ((Merk.root l).map u8).toArray) [] w) := by
  have key : ∀ (N : Nat) (l : List (List UInt8)) (A : Option Addr) (m c : Nat) (w : World), l.length = N → m = l.length → m ≤ c → (∀ x ∈ l, x.length ≤ 140737488351232) → l.length ≤ 9223372036854775807 → Rd w A (l.map str) → Calls Tryd.prog 30 #[.slice A m c] w (Gives (.agg ((Merk.root l).map u8).toArray) [] w) := by
    intro N
    induction N using Nat.strongRecOn with
    | _ N ih =>
      intro l A m c w hN hm hc hb hl hR
      subst hm
      exact rrootS N (fun l' A' m' c' w' h1 h2 h3 h4 h5 h6 => ih l'.length (by omega) l' A' m' c' w' rfl h2 h3 h4 h5 h6) l A c hN hc hb hl hR
  exact fun l A m c w => key l.length l A m c w rfl

end Go.Proofs.YtbadncpjbdfinaaDoor.D_Root2
