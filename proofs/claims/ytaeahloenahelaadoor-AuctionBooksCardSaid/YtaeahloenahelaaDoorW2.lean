/- Part of a proof about given Go functions: contracts of functions, or plain laws. -/
import Derived.Test.YtaeahloenahelaaDoorS6
import Derived.Test.YtaeahloenahelaaDoorS5
import Derived.Test.YtaeahloenahelaaDoorProg
import Derived.Test.YtaeahloenahelaaDoorW1
import Derived.Test.YtaeahloenahelaaDoorS7
set_option linter.unusedVariables false
set_option linter.unusedSimpArgs false
namespace Go.Proofs.YtaeahloenahelaaDoor.A_Lay
open Go.Sx Go.RowKit Go.Proofs.YtaeahloenahelaaDoor.A_Num

theorem z_size3 : sizeB Tryd.prog 3 = some 1 := by kernel_rfl
theorem z_agg3 : aggB Tryd.prog 3 = some false := by kernel_rfl
theorem z_call82 : callB Tryd.prog 82 = true := by kernel_rfl
theorem z_size9 : sizeB Tryd.prog 9 = some 1 := by kernel_rfl
theorem z_zero9 : zeroL Tryd.prog 9 = some ([.string ⟨#[]⟩]) := by kernel_rfl
theorem z_slice122 : sliceB Tryd.prog 122 = some (9, 1, 16) := by kernel_rfl
theorem z_notint122 : notIntB Tryd.prog 122 = true := by kernel_rfl
theorem z_call83 : callB Tryd.prog 83 = true := by kernel_rfl
theorem z_call95 : callB Tryd.prog 95 = true := by kernel_rfl
theorem z_field30_0 : fieldB Tryd.prog 30 0 = some 0 := by kernel_rfl
theorem q_ix_c4b32_0 {a0 a1 a2 a3 : Value} {t4 : List UInt8} : (a0 :: a1 :: a2 :: a3 :: t4.map u8)[0]? = some a0 := ix_0
theorem z_field30_1 : fieldB Tryd.prog 30 1 = some 1 := by kernel_rfl
theorem q_ix_c4b32_1 {a0 a1 a2 a3 : Value} {t4 : List UInt8} : (a0 :: a1 :: a2 :: a3 :: t4.map u8)[1]? = some a1 := (ix_c (o := 0) ix_0)
theorem z_field30_2 : fieldB Tryd.prog 30 2 = some 2 := by kernel_rfl
theorem q_ix_c4b32_2 {a0 a1 a2 a3 : Value} {t4 : List UInt8} : (a0 :: a1 :: a2 :: a3 :: t4.map u8)[2]? = some a2 := (ix_c (o := 1) (ix_c (o := 0) ix_0))
theorem z_field30_3 : fieldB Tryd.prog 30 3 = some 3 := by kernel_rfl
theorem q_ix_c4b32_3 {a0 a1 a2 a3 : Value} {t4 : List UInt8} : (a0 :: a1 :: a2 :: a3 :: t4.map u8)[3]? = some a3 := (ix_c (o := 2) (ix_c (o := 1) (ix_c (o := 0) ix_0)))
theorem z_zero3 : zeroL Tryd.prog 3 = some ([.int .i64 0]) := by kernel_rfl
theorem z_call104 : callB Tryd.prog 104 = true := by kernel_rfl
theorem z_agg30 : aggB Tryd.prog 30 = some true := by kernel_rfl
theorem z_size30 : sizeB Tryd.prog 30 = some 36 := by kernel_rfl
theorem q_ld_c4b32_0_36 {a0 a1 a2 a3 : Value} {t4 : List UInt8} (h4 : t4.length = 32) : ((a0 :: a1 :: a2 :: a3 :: t4.map u8).drop 0).take 36 = a0 :: a1 :: a2 :: a3 :: t4.map u8 := (ld_a (len_c (n := 35) (len_c (n := 34) (len_c (n := 33) (len_c (n := 32) (len_e (k := 32) h4))))))
theorem q_len_c4b32 {a0 a1 a2 a3 : Value} {t4 : List UInt8} (h4 : t4.length = 32) : (a0 :: a1 :: a2 :: a3 :: t4.map u8).length = 36 := (len_c (n := 35) (len_c (n := 34) (len_c (n := 33) (len_c (n := 32) (len_e (k := 32) h4)))))
theorem z_call86 : callB Tryd.prog 86 = true := by kernel_rfl
theorem z_field30_4 : fieldB Tryd.prog 30 4 = some 4 := by kernel_rfl
theorem z_size5 : sizeB Tryd.prog 5 = some 1 := by kernel_rfl
theorem z_call88 : callB Tryd.prog 88 = true := by kernel_rfl
theorem z_call87 : callB Tryd.prog 87 = true := by kernel_rfl

set_option maxRecDepth 100000 in
set_option maxHeartbeats 1000000 in
theorem nnum (ns : List Int) (A : Option Addr) (m c : Nat) (hm : m = ns.length) (hl : ns.length ≤ 1000) {w : World} (hR : Rd w A (ns.map i64)) : Calls Tryd.prog 104 #[.slice A m c] w (Gives (.bool (Note.nums ns)) [] w) := by
  subst hm
  have lz32 : (List.replicate 32 (0 : UInt8)).length = 32 := List.length_replicate
  refine enterL (args := [.slice A ns.length c]) Tryd.func104 rfl rfl (l := []) (Sep.refl _) ?_
  intro a0 H0
  refine wp_seq ?_
  refine reg ?_
  refine plain (y_assign rfl rfl) rfl rfl rfl H0 ?_
  clear H0; intro a1 H1
  refine fin ?_
  refine then_n ?_
  refine wp_seq ?_
  refine wp_seq ?_
  refine reg ?_
  refine plain (y_move rfl rfl) rfl rfl rfl H1 ?_
  clear H1; intro a2 H2
  refine plain (y_len rfl Tryd.underlying23 rfl) rfl rfl rfl H2 ?_
  clear H2; intro a3 H3
  refine plain (y_move rfl rfl) rfl rfl rfl H3 ?_
  clear H3; intro a4 H4
  refine fin ?_
  refine then_n ?_
  refine wp_block ?_
  refine loop (ι := Nat) (fun k => [(5, .slice A ns.length c), (6, .int .i64 (ns.length : Int)), (7, .int .i64 (k : Int))]) (fun k => []) (fun k => k ≤ ns.length ∧ (ns.take k).all Note.okNum = true) (fun k => ns.length - k) (0) ⟨Nat.zero_le _, rfl⟩ (H4.weak ⟨rfl, rfl, rfl, trivial⟩ rfl) ?_
  clear H4; intro k a5 wx5 hok5 H5
  have hok := hok5
  refine wp_seq ?_
  refine reg ?_
  refine plain (y_lss rfl rfl rfl) rfl rfl rfl H5 ?_
  clear H5; intro a6 H6
  refine fin ?_
  refine then_n ?_
  refine wp_seq ?_
  refine cnd H6 rfl (fun hc7 => ?_) (fun hc7 => ?_) -- cond 1
  · skip
    try simp only [decide_eq_true_eq, decide_eq_false_iff_not, Bool.not_eq_true', Bool.not_eq_false', Bool.and_eq_true, Bool.not_eq_true, Bool.not_eq_false] at hc7
    refine wp_skip ?_
    refine then_n ?_
    refine wp_seq ?_
    refine wp_block ?_
    refine wp_seq ?_
    refine reg ?_
    refine plain (y_ixR rfl Tryd.underlying23 z_size3 rfl rfl (by omega) (by omega) (rd_old (by assumption) (by simp)) (by rw [List.length_map]; omega)) rfl rfl rfl H6 ?_
    clear H6; intro a8 H8
    refine plain (y_loadR rfl z_agg3 rfl (rd_old (by assumption) (by simp)) (by rw [Nat.mul_one]; exact i64_get ns (k : Int).toNat (by omega))) rfl rfl rfl H8 ?_
    clear H8; intro a9 H9
    refine plain (y_assign rfl rfl) rfl rfl rfl H9 ?_
    clear H9; intro a10 H10
    refine fin ?_
    refine then_n ?_
    refine wp_seq ?_
    refine reg ?_
    refine plain (y_move rfl rfl) rfl rfl rfl H10 ?_
    clear H10; intro a11 H11
    refine plain (y_lss rfl rfl rfl) rfl rfl rfl H11 ?_
    clear H11; intro a12 H12
    refine plain (y_move rfl rfl) rfl rfl rfl H12 ?_
    clear H12; intro a13 H13
    refine Sx.part (d := 13) H13 rfl (fun hg14 => ?_) (fun hg14 => ?_)
    · first
      | fail
      | skip
        clear H13; intro H15
        try simp only [decide_eq_true_eq, decide_eq_false_iff_not, Bool.not_eq_true', Bool.not_eq_false', Bool.and_eq_true, Bool.not_eq_true, Bool.not_eq_false] at hg14
        refine skip rfl rfl rfl H15 ?_
        clear H15; intro a16 H16
        refine skip rfl rfl rfl H16 ?_
        clear H16; intro a17 H17
        refine plain (y_pick_t rfl rfl rfl) rfl rfl rfl H17 ?_
        clear H17; intro a18 H18
        refine fin ?_
        refine then_n ?_
        refine cnd_t H18 rfl ?_
        refine wp_seq ?_
        refine reg ?_
        refine plain (y_assign rfl rfl) rfl rfl rfl H18 ?_
        clear H18; intro a20 H20
        refine fin ?_
        refine then_n ?_
        refine wp_ret ?_
        refine inb_r ?_
        refine then_r ?_
        refine then_r ?_
        refine inb_r ?_
        refine then_r ?_
        -- return 1
        refine ret1 rfl H20 rfl ?_
        exact ⟨_, [], rfl, ⟨by rw [Note.nums_bad (k := k) (by omega) (by simp only [Int.toNat_natCast] at *; omega)], rfl⟩, H20.sep.sub (List.nil_sublist _)⟩
    · first
      | fail
      | skip
        clear H13; intro H21
        try simp only [decide_eq_true_eq, decide_eq_false_iff_not, Bool.not_eq_true', Bool.not_eq_false', Bool.and_eq_true, Bool.not_eq_true, Bool.not_eq_false] at hg14
        refine plain (y_move rfl rfl) rfl rfl rfl H21 ?_
        clear H21; intro a22 H22
        refine plain (y_gtr rfl rfl rfl) rfl rfl rfl H22 ?_
        clear H22; intro a23 H23
        refine plain (y_pick_f rfl rfl rfl) rfl rfl rfl H23 ?_
        clear H23; intro a24 H24
        refine fin ?_
        refine then_n ?_
        refine cnd H24 rfl (fun hc25 => ?_) (fun hc25 => ?_) -- cond 3
        · skip
          try simp only [decide_eq_true_eq, decide_eq_false_iff_not, Bool.not_eq_true', Bool.not_eq_false', Bool.and_eq_true, Bool.not_eq_true, Bool.not_eq_false] at hc25
          refine wp_seq ?_
          refine reg ?_
          refine plain (y_assign rfl rfl) rfl rfl rfl H24 ?_
          clear H24; intro a26 H26
          refine fin ?_
          refine then_n ?_
          refine wp_ret ?_
          refine inb_r ?_
          refine then_r ?_
          refine then_r ?_
          refine inb_r ?_
          refine then_r ?_
          -- return 2
          refine ret1 rfl H26 rfl ?_
          exact ⟨_, [], rfl, ⟨by rw [Note.nums_bad (k := k) (by omega) (by simp only [Int.toNat_natCast] at *; omega)], rfl⟩, H26.sep.sub (List.nil_sublist _)⟩
        · skip
          try simp only [decide_eq_true_eq, decide_eq_false_iff_not, Bool.not_eq_true', Bool.not_eq_false', Bool.and_eq_true, Bool.not_eq_true, Bool.not_eq_false] at hc25
          refine wp_skip ?_
          refine inb_n ?_
          refine then_n ?_
          refine reg ?_
          refine plain (y_add rfl rfl rfl (by first | exact w64 (by omega) (by omega) | rfl)) rfl rfl rfl H24 ?_
          clear H24; intro a27 H27
          refine plain (y_move rfl rfl) rfl rfl rfl H27 ?_
          clear H27; intro a28 H28
          refine fin ?_
          refine then_n ?_
          refine ⟨k + 1, by omega, ⟨by omega, Note.take_all 0 (by omega) hok.2 ?_⟩, H28.weak ⟨rfl, rfl, fi rfl (by omega), trivial⟩ rfl⟩
          simp only [Int.toNat_natCast, Note.okNum, decide_eq_true_eq] at *
          omega
  · skip
    try simp only [decide_eq_true_eq, decide_eq_false_iff_not, Bool.not_eq_true', Bool.not_eq_false', Bool.and_eq_true, Bool.not_eq_true, Bool.not_eq_false] at hc7
    refine wp_exit ?_
    refine then_x ?_
    refine then_x ?_
    refine inb_hit ?_
    refine then_n ?_
    refine wp_seq ?_
    refine reg ?_
    refine plain (y_assign rfl rfl) rfl rfl rfl H6 ?_
    clear H6; intro a29 H29
    refine fin ?_
    refine then_n ?_
    refine wp_ret ?_
    -- return 3
    refine ret1 rfl H29 rfl ?_
    exact ⟨_, [], rfl, ⟨by rw [Note.nums_all (k := k) (by omega) hok.2], rfl⟩, H29.sep.sub (List.nil_sublist _)⟩
set_option maxRecDepth 100000 in
set_option maxHeartbeats 1000000 in
theorem nlay (ns : List Int) (A : Option Addr) (m c : Nat) (hm : m = ns.length) (hl : ns.length ≤ 1000) (hb : ∀ x ∈ ns, x ≤ 9223372036854775807) {w : World} (hR : Rd w A (ns.map i64)) : Calls Tryd.prog 88 #[.slice A m c] w (Post [] w (fun u l => l = [It.row 9 1 u ns.length ((ns.map Note.num).map str)])) := by
  subst hm
  have lz32 : (List.replicate 32 (0 : UInt8)).length = 32 := List.length_replicate
  refine enterL (args := [.slice A ns.length c]) Tryd.func88 rfl rfl (l := []) (Sep.refl _) ?_
  intro a0 H0
  refine wp_seq ?_
  refine reg ?_
  refine plain (y_assign rfl rfl) rfl rfl rfl H0 ?_
  clear H0; intro a1 H1
  refine fin ?_
  refine then_n ?_
  refine wp_seq ?_
  refine reg ?_
  refine plain (y_assign rfl rfl) rfl rfl rfl H1 ?_
  clear H1; intro a2 H2
  refine fin ?_
  refine then_n ?_
  refine wp_seq ?_
  refine wp_seq ?_
  refine reg ?_
  refine plain (y_move rfl rfl) rfl rfl rfl H2 ?_
  clear H2; intro a3 H3
  refine plain (y_len rfl Tryd.underlying23 rfl) rfl rfl rfl H3 ?_
  clear H3; intro a4 H4
  refine plain (y_move rfl rfl) rfl rfl rfl H4 ?_
  clear H4; intro a5 H5
  refine fin ?_
  refine then_n ?_
  refine wp_block ?_
  replace H5 := H5.nilRow 9 1
  refine loop (ι := Nat × Value) (fun x => [(3, x.2), (8, .slice A ns.length c), (9, .int .i64 (ns.length : Int)), (10, .int .i64 (x.1 : Int))]) (fun x => [It.row 9 1 x.2 x.1 (((ns.take x.1).map Note.num).map str)]) (fun x => x.1 ≤ ns.length) (fun x => ns.length - x.1) ((0, .slice none 0 0)) (Nat.zero_le _) (H5.weak ⟨rfl, rfl, rfl, rfl, trivial⟩ rfl) ?_
  clear H5; intro x a6 wx6 hok6 H6
  obtain ⟨k, v⟩ := x
  dsimp only at hok6 H6
  have hok := hok6
  obtain ⟨Av, cv, hv, hRv, hmv⟩ := row_shape (v := v) H6.sep (by repeat (first | exact Mh | apply Mt))
  subst hv
  refine wp_seq ?_
  refine reg ?_
  refine plain (y_lss rfl rfl rfl) rfl rfl rfl H6 ?_
  clear H6; intro a7 H7
  refine fin ?_
  refine then_n ?_
  refine wp_seq ?_
  refine cnd H7 rfl (fun hc8 => ?_) (fun hc8 => ?_) -- cond 1
  · skip
    try simp only [decide_eq_true_eq, decide_eq_false_iff_not, Bool.not_eq_true', Bool.not_eq_false', Bool.and_eq_true, Bool.not_eq_true, Bool.not_eq_false] at hc8
    refine wp_skip ?_
    refine then_n ?_
    refine wp_seq ?_
    refine wp_block ?_
    refine wp_seq ?_
    refine reg ?_
    refine plain (y_ixR rfl Tryd.underlying23 z_size3 rfl rfl (by omega) (by omega) (rd_old (by assumption) (by simp)) (by rw [List.length_map]; omega)) rfl rfl rfl H7 ?_
    clear H7; intro a9 H9
    refine plain (y_loadR rfl z_agg3 rfl (rd_old (by assumption) (by simp)) (by rw [Nat.mul_one]; exact i64_get ns (k : Int).toNat (by omega))) rfl rfl rfl H9 ?_
    clear H9; intro a10 H10
    refine plain (y_assign rfl rfl) rfl rfl rfl H10 ?_
    clear H10; intro a11 H11
    refine fin ?_
    refine then_n ?_
    refine wp_seq ?_
    refine reg ?_
    refine plain (y_move rfl rfl) rfl rfl rfl H11 ?_
    clear H11; intro a12 H12
    refine st_callg rfl z_call82 rfl rfl rfl rfl H12 (num _ (by have := hb (ns.getD k 0) (by rw [Oct.getD_eq 0 (by omega)]; exact List.getElem_mem _); simpa using this) _) ?_
    clear H12; intro a13 wx13 H13
    refine plain (y_move rfl rfl) rfl rfl rfl H13 ?_
    clear H13; intro a14 H14
    refine plain (y_extract rfl rfl rfl) rfl rfl rfl H14 ?_
    clear H14; intro a15 H15
    refine plain (y_extract rfl rfl rfl) rfl rfl rfl H15 ?_
    clear H15; intro a16 H16
    refine plain (y_assign rfl rfl) rfl rfl rfl H16 ?_
    clear H16; intro a17 H17
    refine plain (y_assign rfl rfl) rfl rfl rfl H17 ?_
    clear H17; intro a18 H18
    refine fin ?_
    refine then_n ?_
    refine reg ?_
    refine plain (y_move rfl rfl) rfl rfl rfl H18 ?_
    clear H18; intro a19 H19
    refine plain (y_move rfl rfl) rfl rfl rfl H19 ?_
    clear H19; intro a20 H20
    refine st_buildSlice1 (xs := [.tmp 20]) rfl Tryd.underlying122 z_size9 z_zero9 rfl rfl rfl rfl rfl rfl rfl rfl rfl H20 ?_
    clear H20; intro b21 a21 wx21 H21
    refine st_append rfl z_slice122 z_notint122 rfl rfl (fun _ => (by repeat (first | exact Uh | apply Ut))) (fun w hs => Src.slice ((rd_blkA (by repeat (first | exact Mh | apply Mt))) w hs) rfl (by simp [Value.oneCell'])) (by unfold maxLen at *; first | omega | (simp only [List.length_cons, List.length_nil, List.length_append, List.length_map]; omega)) (by first | omega | (simp only [List.length_cons, List.length_nil, List.length_append, List.length_map]; omega)) rfl rfl rfl H21 ?_
    clear H21; intro v22 a22 wx22 hnil22 H22
    obtain ⟨Ar22, cr22, hvr22, hRr22, hmr22⟩ := row_shape (v := v22) H22.sep (by repeat (first | exact Mh | apply Mt))
    subst hvr22
    refine plain (y_assign rfl rfl) rfl rfl rfl H22 ?_
    clear H22; intro a23 H23
    refine fin ?_
    refine inb_n ?_
    refine then_n ?_
    refine reg ?_
    refine plain (y_add rfl rfl rfl (by first | exact w64 (by omega) (by omega) | rfl)) rfl rfl rfl H23 ?_
    clear H23; intro a24 H24
    refine plain (y_move rfl rfl) rfl rfl rfl H24 ?_
    clear H24; intro a25 H25
    refine fin ?_
    refine then_n ?_
    refine ⟨(k + 1, (.slice Ar22 _ cr22)), by dsimp only; omega, by dsimp only; omega, (H25.drop (List.Sublist.cons _ (List.Sublist.refl _))).weak ⟨rfl, rfl, rfl, fi rfl (by dsimp only; omega), trivial⟩ (ir (by dsimp only) ?_)⟩
    rw [Oct.take_succ 0 (by omega), List.map_append, List.map_append]
    rfl
  · skip
    try simp only [decide_eq_true_eq, decide_eq_false_iff_not, Bool.not_eq_true', Bool.not_eq_false', Bool.and_eq_true, Bool.not_eq_true, Bool.not_eq_false] at hc8
    refine wp_exit ?_
    refine then_x ?_
    refine then_x ?_
    refine inb_hit ?_
    refine then_n ?_
    refine wp_seq ?_
    refine reg ?_
    refine plain (y_move rfl rfl) rfl rfl rfl H7 ?_
    clear H7; intro a26 H26
    refine plain (y_assign rfl rfl) rfl rfl rfl H26 ?_
    clear H26; intro a27 H27
    refine fin ?_
    refine then_n ?_
    refine wp_ret ?_
    -- return 1
    refine ret1 rfl H27 rfl ?_
    refine ⟨_, _, rfl, ?_, H27.sep⟩
    rw [show k = ns.length by omega, List.take_length]
set_option maxRecDepth 100000 in
set_option maxHeartbeats 1000000 in
theorem nwrite (l : List (List UInt8)) (A : Option Addr) (m c : Nat) (hm : m = l.length) {w : World} (hR : Rd w A (l.map str)) (hl : l.length ≤ 9223372036854775807) : Calls Tryd.prog 87 #[.slice A m c] w (Gives (.tuple #[str (Oct.list l).1, .int .i64 (Oct.list l).2]) [] w) := by
  subst hm
  have lz32 : (List.replicate 32 (0 : UInt8)).length = 32 := List.length_replicate
  refine enterL (args := [.slice A l.length c]) Tryd.func87 rfl rfl (l := []) (Sep.refl _) ?_
  intro a0 H0
  refine wp_seq ?_
  refine reg ?_
  refine plain (y_assign rfl rfl) rfl rfl rfl H0 ?_
  clear H0; intro a1 H1
  refine plain (y_assign rfl rfl) rfl rfl rfl H1 ?_
  clear H1; intro a2 H2
  refine fin ?_
  refine then_n ?_
  refine wp_seq ?_
  refine reg ?_
  refine plain (y_move rfl rfl) rfl rfl rfl H2 ?_
  clear H2; intro a3 H3
  refine st_callg rfl z_call83 rfl rfl rfl rfl H3 (lst l A _ c rfl (Rd.frm hR H3.sep.frm (by simp)) hl) ?_
  clear H3; intro a4 wx4 H4
  refine plain (y_move rfl rfl) rfl rfl rfl H4 ?_
  clear H4; intro a5 H5
  refine plain (y_extract rfl rfl rfl) rfl rfl rfl H5 ?_
  clear H5; intro a6 H6
  refine plain (y_extract rfl rfl rfl) rfl rfl rfl H6 ?_
  clear H6; intro a7 H7
  refine plain (y_assign rfl rfl) rfl rfl rfl H7 ?_
  clear H7; intro a8 H8
  refine plain (y_assign rfl rfl) rfl rfl rfl H8 ?_
  clear H8; intro a9 H9
  refine fin ?_
  refine then_n ?_
  refine wp_seq ?_
  refine wp_seq ?_
  refine reg ?_
  refine plain (y_move rfl rfl) rfl rfl rfl H9 ?_
  clear H9; intro a10 H10
  refine plain (y_neq rfl rfl rfl) rfl rfl rfl H10 ?_
  clear H10; intro a11 H11
  refine fin ?_
  refine then_n ?_
  refine cnd H11 rfl (fun hc12 => ?_) (fun hc12 => ?_) -- cond 1
  · skip
    try simp only [decide_eq_true_eq, decide_eq_false_iff_not, Bool.not_eq_true', Bool.not_eq_false', Bool.and_eq_true, Bool.not_eq_true, Bool.not_eq_false] at hc12
    refine wp_seq ?_
    refine reg ?_
    refine plain (y_assign rfl rfl) rfl rfl rfl H11 ?_
    clear H11; intro a13 H13
    refine plain (y_assign rfl rfl) rfl rfl rfl H13 ?_
    clear H13; intro a14 H14
    refine fin ?_
    refine then_n ?_
    refine wp_ret ?_
    refine then_r ?_
    -- return 1
    refine ret2 rfl H14 rfl rfl ?_
    exact ⟨_, [], rfl, ⟨by rw [Note.list_bad (by assumption)], rfl⟩, H14.sep.sub (List.nil_sublist _)⟩
  · skip
    try simp only [decide_eq_true_eq, decide_eq_false_iff_not, Bool.not_eq_true', Bool.not_eq_false', Bool.and_eq_true, Bool.not_eq_true, Bool.not_eq_false] at hc12
    refine wp_skip ?_
    refine then_n ?_
    refine wp_seq ?_
    refine reg ?_
    refine plain (y_move rfl rfl) rfl rfl rfl H11 ?_
    clear H11; intro a15 H15
    refine plain (y_assign rfl rfl) rfl rfl rfl H15 ?_
    clear H15; intro a16 H16
    refine plain (y_assign rfl rfl) rfl rfl rfl H16 ?_
    clear H16; intro a17 H17
    refine fin ?_
    refine then_n ?_
    refine wp_ret ?_
    -- return 2
    refine ret2 rfl H17 rfl rfl ?_
    exact ⟨_, [], rfl, ⟨by rw [Note.list_fine (by assumption)], rfl⟩, H17.sep.sub (List.nil_sublist _)⟩
set_option maxRecDepth 100000 in
set_option maxHeartbeats 1000000 in
theorem rlist (l : List (List UInt8)) (A : Option Addr) (m c : Nat) (hm : m = l.length) {w : World} (hR : Rd w A (l.map str)) (hl : l.length ≤ 9223372036854775807) : Calls Tryd.prog 74 #[.slice A m c] w (Gives (.tuple #[str (Oct.list l).1, .int .i64 (Oct.list l).2]) [] w) := by
  subst hm
  have lz32 : (List.replicate 32 (0 : UInt8)).length = 32 := List.length_replicate
  refine enterL (args := [.slice A l.length c]) Tryd.func74 rfl rfl (l := []) (Sep.refl _) ?_
  intro a0 H0
  refine wp_seq ?_
  refine reg ?_
  refine plain (y_assign rfl rfl) rfl rfl rfl H0 ?_
  clear H0; intro a1 H1
  refine plain (y_assign rfl rfl) rfl rfl rfl H1 ?_
  clear H1; intro a2 H2
  refine fin ?_
  refine then_n ?_
  refine wp_seq ?_
  refine reg ?_
  refine plain (y_move rfl rfl) rfl rfl rfl H2 ?_
  clear H2; intro a3 H3
  refine st_callg rfl z_call95 rfl rfl rfl rfl H3 (lstR l A _ c rfl (Rd.frm hR H3.sep.frm (by simp)) hl) ?_
  clear H3; intro a4 wx4 H4
  refine plain (y_extract rfl rfl rfl) rfl rfl rfl H4 ?_
  clear H4; intro a5 H5
  refine plain (y_extract rfl rfl rfl) rfl rfl rfl H5 ?_
  clear H5; intro a6 H6
  refine plain (y_assign rfl rfl) rfl rfl rfl H6 ?_
  clear H6; intro a7 H7
  refine plain (y_assign rfl rfl) rfl rfl rfl H7 ?_
  clear H7; intro a8 H8
  refine fin ?_
  refine then_n ?_
  refine wp_ret ?_
  -- return 1
  refine ret2 rfl H8 rfl rfl ?_
  exact ⟨_, [], rfl, ⟨rfl, rfl⟩, H8.sep.sub (List.nil_sublist _)⟩
set_option maxRecDepth 100000 in
set_option maxHeartbeats 1000000 in
theorem nbid (b : Note.Bid) (wf : Note.Bid.Wf b) (w : World) : Calls Tryd.prog 86 #[.agg (Note.Bid.cells b).toArray] w (Gives (.bool b.ok) [] w) := by
  have lz32 : (List.replicate 32 (0 : UInt8)).length = 32 := List.length_replicate
  have lz0 := wf.tag
  refine enterL (args := [.agg (Note.Bid.cells b).toArray]) Tryd.func86 rfl rfl (l := []) (Sep.refl _) ?_
  intro a0 H0
  refine wp_seq ?_
  refine reg ?_
  refine st_box rfl rfl (agg_cells _) rfl rfl rfl H0 ?_
  clear H0; intro b1 a1 wx1 H1
  refine plain (y_assign rfl rfl) rfl rfl rfl H1 ?_
  clear H1; intro a2 H2
  refine fin ?_
  refine then_n ?_
  refine wp_seq ?_
  refine reg ?_
  refine plain (y_fieldB rfl z_field30_0 rfl (by first | (simp only [Nat.zero_add, Nat.add_zero, Nat.reduceAdd]; rfl) | rfl)) rfl rfl rfl H2 ?_
  clear H2; intro a3 H3
  refine plain (y_loadB rfl z_agg3 rfl (by repeat (first | exact Mh | apply Mt)) q_ix_c4b32_0) rfl rfl rfl H3 ?_
  clear H3; intro a4 H4
  refine plain (y_fieldB rfl z_field30_1 rfl (by first | (simp only [Nat.zero_add, Nat.add_zero, Nat.reduceAdd]; rfl) | rfl)) rfl rfl rfl H4 ?_
  clear H4; intro a5 H5
  refine plain (y_loadB rfl z_agg3 rfl (by repeat (first | exact Mh | apply Mt)) q_ix_c4b32_1) rfl rfl rfl H5 ?_
  clear H5; intro a6 H6
  refine plain (y_fieldB rfl z_field30_2 rfl (by first | (simp only [Nat.zero_add, Nat.add_zero, Nat.reduceAdd]; rfl) | rfl)) rfl rfl rfl H6 ?_
  clear H6; intro a7 H7
  refine plain (y_loadB rfl z_agg3 rfl (by repeat (first | exact Mh | apply Mt)) q_ix_c4b32_2) rfl rfl rfl H7 ?_
  clear H7; intro a8 H8
  refine plain (y_fieldB rfl z_field30_3 rfl (by first | (simp only [Nat.zero_add, Nat.add_zero, Nat.reduceAdd]; rfl) | rfl)) rfl rfl rfl H8 ?_
  clear H8; intro a9 H9
  refine plain (y_loadB rfl z_agg3 rfl (by repeat (first | exact Mh | apply Mt)) q_ix_c4b32_3) rfl rfl rfl H9 ?_
  clear H9; intro a10 H10
  refine st_buildSlice1 (xs := [.tmp 4, .tmp 6, .tmp 8, .tmp 10]) rfl Tryd.underlying23 z_size3 z_zero3 rfl rfl rfl rfl rfl rfl rfl rfl rfl H10 ?_
  clear H10; intro b11 a11 wx11 H11
  refine st_callg rfl z_call104 rfl rfl rfl rfl H11 (nnum [b.round, b.who, b.amount, b.salt] _ _ _ rfl (by simp) (Rd.ofSep (rd_blkA (by repeat (first | exact Mh | apply Mt))) H11.sep)) ?_
  clear H11; intro a12 wx12 H12
  refine plain (y_move rfl rfl) rfl rfl rfl H12 ?_
  clear H12; intro a13 H13
  refine Sx.part (d := 13) H13 rfl (fun hg14 => ?_) (fun hg14 => ?_)
  · first
    | fail
    | skip
      clear H13; intro H15
      try simp only [decide_eq_true_eq, decide_eq_false_iff_not, Bool.not_eq_true', Bool.not_eq_false', Bool.and_eq_true, Bool.not_eq_true, Bool.not_eq_false] at hg14
      have hk := hg14
      refine plain (y_fieldB rfl z_field30_1 rfl (by first | (simp only [Nat.zero_add, Nat.add_zero, Nat.reduceAdd]; rfl) | rfl)) rfl rfl rfl H15 ?_
      clear H15; intro a16 H16
      refine plain (y_loadB rfl z_agg3 rfl (by repeat (first | exact Mh | apply Mt)) q_ix_c4b32_1) rfl rfl rfl H16 ?_
      clear H16; intro a17 H17
      refine plain (y_lss rfl rfl rfl) rfl rfl rfl H17 ?_
      clear H17; intro a18 H18
      refine plain (y_pick_t rfl rfl rfl) rfl rfl rfl H18 ?_
      clear H18; intro a19 H19
      refine plain (y_assign rfl rfl) rfl rfl rfl H19 ?_
      clear H19; intro a20 H20
      refine fin ?_
      refine then_n ?_
      refine wp_ret ?_
      -- return 1
      refine ret1 rfl H20 rfl ?_
      exact ⟨_, [], rfl, ⟨by unfold Note.Bid.ok; rw [hk]; first | rfl | (simp; done) | (congr 1; simp), rfl⟩, H20.sep.sub (List.nil_sublist _)⟩
  · first
    | fail
    | skip
      clear H13; intro H21
      try simp only [decide_eq_true_eq, decide_eq_false_iff_not, Bool.not_eq_true', Bool.not_eq_false', Bool.and_eq_true, Bool.not_eq_true, Bool.not_eq_false] at hg14
      have hk := hg14
      refine skip rfl rfl rfl H21 ?_
      clear H21; intro a22 H22
      refine skip rfl rfl rfl H22 ?_
      clear H22; intro a23 H23
      refine skip rfl rfl rfl H23 ?_
      clear H23; intro a24 H24
      refine plain (y_pick_f rfl rfl rfl) rfl rfl rfl H24 ?_
      clear H24; intro a25 H25
      refine plain (y_assign rfl rfl) rfl rfl rfl H25 ?_
      clear H25; intro a26 H26
      refine fin ?_
      refine then_n ?_
      refine wp_ret ?_
      -- return 2
      refine ret1 rfl H26 rfl ?_
      exact ⟨_, [], rfl, ⟨by unfold Note.Bid.ok; rw [hk]; first | rfl | (simp; done) | (congr 1; simp), rfl⟩, H26.sep.sub (List.nil_sublist _)⟩
set_option maxRecDepth 100000 in
set_option maxHeartbeats 1000000 in
theorem nwbid (b : Note.Bid) (wf : Note.Bid.Wf b) (w : World) : Calls Tryd.prog 68 #[.agg (Note.Bid.cells b).toArray] w (Gives (.tuple #[str (Note.writeBid b).1, .int .i64 (Note.writeBid b).2]) [] w) := by
  have lz32 : (List.replicate 32 (0 : UInt8)).length = 32 := List.length_replicate
  have lz0 := wf.tag
  refine enterL (args := [.agg (Note.Bid.cells b).toArray]) Tryd.func68 rfl rfl (l := []) (Sep.refl _) ?_
  intro a0 H0
  refine wp_seq ?_
  refine reg ?_
  refine st_box rfl rfl (agg_cells _) rfl rfl rfl H0 ?_
  clear H0; intro b1 a1 wx1 H1
  refine plain (y_assign rfl rfl) rfl rfl rfl H1 ?_
  clear H1; intro a2 H2
  refine plain (y_assign rfl rfl) rfl rfl rfl H2 ?_
  clear H2; intro a3 H3
  refine fin ?_
  refine then_n ?_
  refine wp_seq ?_
  refine wp_seq ?_
  refine reg ?_
  refine plain (y_loadAB rfl z_agg30 z_size30 rfl (by repeat (first | exact Mh | apply Mt)) (q_ld_c4b32_0_36 (by assumption)) (q_len_c4b32 (by assumption))) rfl rfl rfl H3 ?_
  clear H3; intro a4 H4
  refine st_callg rfl z_call86 rfl rfl rfl rfl H4 (nbid b wf _) ?_
  clear H4; intro a5 wx5 H5
  refine plain ((by first | exact y_not_d rfl rfl | exact y_not rfl rfl)) rfl rfl rfl H5 ?_
  clear H5; intro a6 H6
  refine fin ?_
  refine then_n ?_
  refine cnd H6 rfl (fun hc7 => ?_) (fun hc7 => ?_) -- cond 1
  · skip
    try simp only [decide_eq_true_eq, decide_eq_false_iff_not, Bool.not_eq_true', Bool.not_eq_false', Bool.and_eq_true, Bool.not_eq_true, Bool.not_eq_false] at hc7
    have hk := hc7
    refine wp_seq ?_
    refine reg ?_
    refine plain (y_assign rfl rfl) rfl rfl rfl H6 ?_
    clear H6; intro a8 H8
    refine plain (y_assign rfl rfl) rfl rfl rfl H8 ?_
    clear H8; intro a9 H9
    refine fin ?_
    refine then_n ?_
    refine wp_ret ?_
    refine then_r ?_
    -- return 1
    refine ret2 rfl H9 rfl rfl ?_
    exact ⟨_, [], rfl, ⟨by rw [Note.writeBid, hk]; rfl, rfl⟩, H9.sep.sub (List.nil_sublist _)⟩
  · skip
    try simp only [decide_eq_true_eq, decide_eq_false_iff_not, Bool.not_eq_true', Bool.not_eq_false', Bool.and_eq_true, Bool.not_eq_true, Bool.not_eq_false] at hc7
    have hk := hc7
    refine wp_skip ?_
    refine then_n ?_
    refine wp_seq ?_
    refine hreg _ (fun _ h => h) (by kernel_rfl) H6 ?_
    clear H6; intro wx10 H10
    refine htake 0 rfl (by kernel_rfl) (y_fieldB rfl z_field30_0 rfl (by first | (simp only [Nat.zero_add, Nat.add_zero, Nat.reduceAdd]; rfl) | rfl)) rfl rfl rfl (fun _ h => (h.sub (by first | exact S0 | exact S1 | repeat (first | exact S1 | exact S0 | apply S2 | apply S3)))) H10 ?_
    clear H10; intro a11 H11
    refine htake 1 rfl (by kernel_rfl) (y_loadB rfl z_agg3 rfl (by repeat (first | exact Mh | apply Mt)) q_ix_c4b32_0) rfl rfl rfl (fun _ h => (h.sub (by first | exact S0 | exact S1 | repeat (first | exact S1 | exact S0 | apply S2 | apply S3)))) H11 ?_
    clear H11; intro a12 H12
    refine htake 2 rfl (by kernel_rfl) (y_fieldB rfl z_field30_1 rfl (by first | (simp only [Nat.zero_add, Nat.add_zero, Nat.reduceAdd]; rfl) | rfl)) rfl rfl rfl (fun _ h => (h.sub (by first | exact S0 | exact S1 | repeat (first | exact S1 | exact S0 | apply S2 | apply S3)))) H12 ?_
    clear H12; intro a13 H13
    refine htake 3 rfl (by kernel_rfl) (y_loadB rfl z_agg3 rfl (by repeat (first | exact Mh | apply Mt)) q_ix_c4b32_1) rfl rfl rfl (fun _ h => (h.sub (by first | exact S0 | exact S1 | repeat (first | exact S1 | exact S0 | apply S2 | apply S3)))) H13 ?_
    clear H13; intro a14 H14
    refine htake 4 rfl (by kernel_rfl) (y_fieldB rfl z_field30_2 rfl (by first | (simp only [Nat.zero_add, Nat.add_zero, Nat.reduceAdd]; rfl) | rfl)) rfl rfl rfl (fun _ h => (h.sub (by first | exact S0 | exact S1 | repeat (first | exact S1 | exact S0 | apply S2 | apply S3)))) H14 ?_
    clear H14; intro a15 H15
    refine htake 5 rfl (by kernel_rfl) (y_loadB rfl z_agg3 rfl (by repeat (first | exact Mh | apply Mt)) q_ix_c4b32_2) rfl rfl rfl (fun _ h => (h.sub (by first | exact S0 | exact S1 | repeat (first | exact S1 | exact S0 | apply S2 | apply S3)))) H15 ?_
    clear H15; intro a16 H16
    refine htake 6 rfl (by kernel_rfl) (y_fieldB rfl z_field30_3 rfl (by first | (simp only [Nat.zero_add, Nat.add_zero, Nat.reduceAdd]; rfl) | rfl)) rfl rfl rfl (fun _ h => (h.sub (by first | exact S0 | exact S1 | repeat (first | exact S1 | exact S0 | apply S2 | apply S3)))) H16 ?_
    clear H16; intro a17 H17
    refine htake 7 rfl (by kernel_rfl) (y_loadB rfl z_agg3 rfl (by repeat (first | exact Mh | apply Mt)) q_ix_c4b32_3) rfl rfl rfl (fun _ h => (h.sub (by first | exact S0 | exact S1 | repeat (first | exact S1 | exact S0 | apply S2 | apply S3)))) H17 ?_
    clear H17; intro a18 H18
    refine htake 10 rfl (by kernel_rfl) (y_fieldB rfl z_field30_4 rfl (by first | (simp only [Nat.zero_add, Nat.add_zero, Nat.reduceAdd]; rfl) | rfl)) rfl rfl rfl (fun _ h => (h.sub (by first | exact S0 | exact S1 | repeat (first | exact S1 | exact S0 | apply S2 | apply S3)))) H18 ?_
    clear H18; intro a19 H19
    refine htake 11 rfl (by kernel_rfl) (y_slA_all rfl Tryd.underlying28 z_size5 (by decide) rfl) rfl rfl rfl (fun _ h => (h.sub (by first | exact S0 | exact S1 | repeat (first | exact S1 | exact S0 | apply S2 | apply S3)))) H19 ?_
    clear H19; intro a20 H20
    refine htake 12 rfl (by kernel_rfl) (y_bstr (p := b.tag) rfl Tryd.underlying118 Tryd.underlying5 Tryd.underlying9 rfl (by rw [wf.tag]) (rd_blk (by repeat (first | exact Mh | apply Mt)) 32 (show _ = b.tag.map u8 from ld_c (ld_c (ld_c (ld_c (ld_a (len_e wf.tag)))))))) rfl rfl rfl (fun _ h => (h.sub (by first | exact S0 | exact S1 | repeat (first | exact S1 | exact S0 | apply S2 | apply S3)))) H20 ?_
    clear H20; intro a21 H21
    refine hgo2 8 13 rfl rfl (by kernel_rfl) ?_ ?_
    · skip
      refine st_buildSlice1 (xs := [.tmp 8, .tmp 10, .tmp 12, .tmp 14]) rfl Tryd.underlying23 z_size3 z_zero3 rfl rfl rfl rfl rfl rfl rfl rfl rfl H21 ?_
      clear H21; intro b22 a22 wx22 H22
      refine hfin (H22.sep.sub (by first | exact S0 | exact S1 | repeat (first | exact S1 | exact S0 | apply S2 | apply S3))) ?_
      refine hgo2 9 13 rfl rfl (by kernel_rfl) ?_ ?_
      · skip
        refine st_call rfl z_call88 rfl rfl rfl rfl H22 (nlay [b.round, b.who, b.amount, b.salt] _ _ _ rfl (by simp) (by intro x hx; simp only [List.mem_cons, List.not_mem_nil, or_false] at hx; rcases hx with rfl | rfl | rfl | rfl <;> first | exact wf.round.2 | exact wf.who.2 | exact wf.amount.2 | exact wf.salt.2) (Rd.ofSep (rd_blkA (by repeat (first | exact Mh | apply Mt))) H22.sep)) ?_
        clear H22; intro v23 l23 a23 wx23 hf23 H23
        obtain rfl := hf23
        simp only [List.cons_append, List.nil_append] at H23
        obtain ⟨Ar23, cr23, hvr23, hRr23, hmr23⟩ := row_shape (v := v23) H23.sep (by repeat (first | exact Mh | apply Mt))
        subst hvr23
        refine hfin (H23.sep.sub (by first | exact S0 | exact S1 | repeat (first | exact S1 | exact S0 | apply S2 | apply S3))) ?_
        refine hgo 13 rfl (by kernel_rfl) ?_
        refine st_buildSlice1 (xs := [.tmp 19]) rfl Tryd.underlying122 z_size9 z_zero9 rfl rfl rfl rfl rfl rfl rfl rfl rfl H23 ?_
        clear H23; intro b24 a24 wx24 H24
        refine hfin (H24.sep.sub (by first | exact S0 | exact S1 | repeat (first | exact S1 | exact S0 | apply S2 | apply S3))) ?_
        refine hgo 14 rfl (by kernel_rfl) ?_
        refine st_append rfl z_slice122 z_notint122 rfl rfl (fun _ => (by repeat (first | exact Uh | apply Ut))) (fun w hs => Src.slice ((rd_blkA (by repeat (first | exact Mh | apply Mt))) w hs) rfl (by simp [Value.oneCell'])) (by unfold maxLen at *; first | omega | (simp only [List.length_cons, List.length_nil, List.length_append, List.length_map]; omega)) (by first | omega | (simp only [List.length_cons, List.length_nil, List.length_append, List.length_map]; omega)) rfl rfl rfl H24 ?_
        clear H24; intro v25 a25 wx25 hnil25 H25
        obtain ⟨Ar25, cr25, hvr25, hRr25, hmr25⟩ := row_shape (v := v25) H25.sep (by repeat (first | exact Mh | apply Mt))
        subst hvr25
        refine hfin (H25.sep.sub (by first | exact S0 | exact S1 | repeat (first | exact S1 | exact S0 | apply S2 | apply S3))) ?_
        refine hgo 15 rfl (by kernel_rfl) ?_
        refine st_callg rfl z_call87 rfl rfl rfl rfl H25 (nwrite [Note.num b.round, Note.num b.who, Note.num b.amount, Note.num b.salt, b.tag] _ _ _ rfl (Rd.ofSep (rd_row (by repeat (first | exact Mh | apply Mt))) H25.sep) (by simp)) ?_
        clear H25; intro a26 wx26 H26
        refine hfin (H26.sep.sub (by first | exact S0 | exact S1 | repeat (first | exact S1 | exact S0 | apply S2 | apply S3))) ?_
        refine htake 16 rfl (by kernel_rfl) (y_extract rfl rfl rfl) rfl rfl rfl (fun _ h => (h.sub (by first | exact S0 | exact S1 | repeat (first | exact S1 | exact S0 | apply S2 | apply S3)))) H26 ?_
        clear H26; intro a27 H27
        refine htake 17 rfl (by kernel_rfl) (y_extract rfl rfl rfl) rfl rfl rfl (fun _ h => (h.sub (by first | exact S0 | exact S1 | repeat (first | exact S1 | exact S0 | apply S2 | apply S3)))) H27 ?_
        clear H27; intro a28 H28
        refine htake 18 rfl (by kernel_rfl) (y_assign rfl rfl) rfl rfl rfl (fun _ h => (h.sub (by first | exact S0 | exact S1 | repeat (first | exact S1 | exact S0 | apply S2 | apply S3)))) H28 ?_
        clear H28; intro a29 H29
        refine htake 19 rfl (by kernel_rfl) (y_assign rfl rfl) rfl rfl rfl (fun _ h => (h.sub (by first | exact S0 | exact S1 | repeat (first | exact S1 | exact S0 | apply S2 | apply S3)))) H29 ?_
        clear H29; intro a30 H30
        refine hdone (by kernel_rfl) ?_
        refine then_n ?_
        refine wp_ret ?_
        -- return 2
        refine ret2 rfl H30 rfl rfl ?_
        exact ⟨_, [], rfl, ⟨by rw [Note.writeBid, hk]; rfl, rfl⟩, H30.sep.sub (List.nil_sublist _)⟩
      · skip
        refine st_buildSlice1 (xs := [.tmp 19]) rfl Tryd.underlying122 z_size9 z_zero9 rfl rfl rfl rfl rfl rfl rfl rfl rfl H22 ?_
        clear H22; intro b31 a31 wx31 H31
        refine hfin (H31.sep.sub (by first | exact S0 | exact S1 | repeat (first | exact S1 | exact S0 | apply S2 | apply S3))) ?_
        refine hgo 9 rfl (by kernel_rfl) ?_
        refine st_call rfl z_call88 rfl rfl rfl rfl H31 (nlay [b.round, b.who, b.amount, b.salt] _ _ _ rfl (by simp) (by intro x hx; simp only [List.mem_cons, List.not_mem_nil, or_false] at hx; rcases hx with rfl | rfl | rfl | rfl <;> first | exact wf.round.2 | exact wf.who.2 | exact wf.amount.2 | exact wf.salt.2) (Rd.ofSep (rd_blkA (by repeat (first | exact Mh | apply Mt))) H31.sep)) ?_
        clear H31; intro v32 l32 a32 wx32 hf32 H32
        obtain rfl := hf32
        simp only [List.cons_append, List.nil_append] at H32
        obtain ⟨Ar32, cr32, hvr32, hRr32, hmr32⟩ := row_shape (v := v32) H32.sep (by repeat (first | exact Mh | apply Mt))
        subst hvr32
        refine hfin (H32.sep.sub (by first | exact S0 | exact S1 | repeat (first | exact S1 | exact S0 | apply S2 | apply S3))) ?_
        refine hgo 14 rfl (by kernel_rfl) ?_
        refine st_append rfl z_slice122 z_notint122 rfl rfl (fun _ => (by repeat (first | exact Uh | apply Ut))) (fun w hs => Src.slice ((rd_blkA (by repeat (first | exact Mh | apply Mt))) w hs) rfl (by simp [Value.oneCell'])) (by unfold maxLen at *; first | omega | (simp only [List.length_cons, List.length_nil, List.length_append, List.length_map]; omega)) (by first | omega | (simp only [List.length_cons, List.length_nil, List.length_append, List.length_map]; omega)) rfl rfl rfl H32 ?_
        clear H32; intro v33 a33 wx33 hnil33 H33
        obtain ⟨Ar33, cr33, hvr33, hRr33, hmr33⟩ := row_shape (v := v33) H33.sep (by repeat (first | exact Mh | apply Mt))
        subst hvr33
        refine hfin (H33.sep.sub (by first | exact S0 | exact S1 | repeat (first | exact S1 | exact S0 | apply S2 | apply S3))) ?_
        refine hgo 15 rfl (by kernel_rfl) ?_
        refine st_callg rfl z_call87 rfl rfl rfl rfl H33 (nwrite [Note.num b.round, Note.num b.who, Note.num b.amount, Note.num b.salt, b.tag] _ _ _ rfl (Rd.ofSep (rd_row (by repeat (first | exact Mh | apply Mt))) H33.sep) (by simp)) ?_
        clear H33; intro a34 wx34 H34
        refine hfin (H34.sep.sub (by first | exact S0 | exact S1 | repeat (first | exact S1 | exact S0 | apply S2 | apply S3))) ?_
        refine htake 16 rfl (by kernel_rfl) (y_extract rfl rfl rfl) rfl rfl rfl (fun _ h => (h.sub (by first | exact S0 | exact S1 | repeat (first | exact S1 | exact S0 | apply S2 | apply S3)))) H34 ?_
        clear H34; intro a35 H35
        refine htake 17 rfl (by kernel_rfl) (y_extract rfl rfl rfl) rfl rfl rfl (fun _ h => (h.sub (by first | exact S0 | exact S1 | repeat (first | exact S1 | exact S0 | apply S2 | apply S3)))) H35 ?_
        clear H35; intro a36 H36
        refine htake 18 rfl (by kernel_rfl) (y_assign rfl rfl) rfl rfl rfl (fun _ h => (h.sub (by first | exact S0 | exact S1 | repeat (first | exact S1 | exact S0 | apply S2 | apply S3)))) H36 ?_
        clear H36; intro a37 H37
        refine htake 19 rfl (by kernel_rfl) (y_assign rfl rfl) rfl rfl rfl (fun _ h => (h.sub (by first | exact S0 | exact S1 | repeat (first | exact S1 | exact S0 | apply S2 | apply S3)))) H37 ?_
        clear H37; intro a38 H38
        refine hdone (by kernel_rfl) ?_
        refine then_n ?_
        refine wp_ret ?_
        -- return 3
        refine ret2 rfl H38 rfl rfl ?_
        exact ⟨_, [], rfl, ⟨by rw [Note.writeBid, hk]; rfl, rfl⟩, H38.sep.sub (List.nil_sublist _)⟩
    · skip
      refine st_buildSlice1 (xs := [.tmp 19]) rfl Tryd.underlying122 z_size9 z_zero9 rfl rfl rfl rfl rfl rfl rfl rfl rfl H21 ?_
      clear H21; intro b39 a39 wx39 H39
      refine hfin (H39.sep.sub (by first | exact S0 | exact S1 | repeat (first | exact S1 | exact S0 | apply S2 | apply S3))) ?_
      refine hgo 8 rfl (by kernel_rfl) ?_
      refine st_buildSlice1 (xs := [.tmp 8, .tmp 10, .tmp 12, .tmp 14]) rfl Tryd.underlying23 z_size3 z_zero3 rfl rfl rfl rfl rfl rfl rfl rfl rfl H39 ?_
      clear H39; intro b40 a40 wx40 H40
      refine hfin (H40.sep.sub (by first | exact S0 | exact S1 | repeat (first | exact S1 | exact S0 | apply S2 | apply S3))) ?_
      refine hgo 9 rfl (by kernel_rfl) ?_
      refine st_call rfl z_call88 rfl rfl rfl rfl H40 (nlay [b.round, b.who, b.amount, b.salt] _ _ _ rfl (by simp) (by intro x hx; simp only [List.mem_cons, List.not_mem_nil, or_false] at hx; rcases hx with rfl | rfl | rfl | rfl <;> first | exact wf.round.2 | exact wf.who.2 | exact wf.amount.2 | exact wf.salt.2) (Rd.ofSep (rd_blkA (by repeat (first | exact Mh | apply Mt))) H40.sep)) ?_
      clear H40; intro v41 l41 a41 wx41 hf41 H41
      obtain rfl := hf41
      simp only [List.cons_append, List.nil_append] at H41
      obtain ⟨Ar41, cr41, hvr41, hRr41, hmr41⟩ := row_shape (v := v41) H41.sep (by repeat (first | exact Mh | apply Mt))
      subst hvr41
      refine hfin (H41.sep.sub (by first | exact S0 | exact S1 | repeat (first | exact S1 | exact S0 | apply S2 | apply S3))) ?_
      refine hgo 14 rfl (by kernel_rfl) ?_
      refine st_append rfl z_slice122 z_notint122 rfl rfl (fun _ => (by repeat (first | exact Uh | apply Ut))) (fun w hs => Src.slice ((rd_blkA (by repeat (first | exact Mh | apply Mt))) w hs) rfl (by simp [Value.oneCell'])) (by unfold maxLen at *; first | omega | (simp only [List.length_cons, List.length_nil, List.length_append, List.length_map]; omega)) (by first | omega | (simp only [List.length_cons, List.length_nil, List.length_append, List.length_map]; omega)) rfl rfl rfl H41 ?_
      clear H41; intro v42 a42 wx42 hnil42 H42
      obtain ⟨Ar42, cr42, hvr42, hRr42, hmr42⟩ := row_shape (v := v42) H42.sep (by repeat (first | exact Mh | apply Mt))
      subst hvr42
      refine hfin (H42.sep.sub (by first | exact S0 | exact S1 | repeat (first | exact S1 | exact S0 | apply S2 | apply S3))) ?_
      refine hgo 15 rfl (by kernel_rfl) ?_
      refine st_callg rfl z_call87 rfl rfl rfl rfl H42 (nwrite [Note.num b.round, Note.num b.who, Note.num b.amount, Note.num b.salt, b.tag] _ _ _ rfl (Rd.ofSep (rd_row (by repeat (first | exact Mh | apply Mt))) H42.sep) (by simp)) ?_
      clear H42; intro a43 wx43 H43
      refine hfin (H43.sep.sub (by first | exact S0 | exact S1 | repeat (first | exact S1 | exact S0 | apply S2 | apply S3))) ?_
      refine htake 16 rfl (by kernel_rfl) (y_extract rfl rfl rfl) rfl rfl rfl (fun _ h => (h.sub (by first | exact S0 | exact S1 | repeat (first | exact S1 | exact S0 | apply S2 | apply S3)))) H43 ?_
      clear H43; intro a44 H44
      refine htake 17 rfl (by kernel_rfl) (y_extract rfl rfl rfl) rfl rfl rfl (fun _ h => (h.sub (by first | exact S0 | exact S1 | repeat (first | exact S1 | exact S0 | apply S2 | apply S3)))) H44 ?_
      clear H44; intro a45 H45
      refine htake 18 rfl (by kernel_rfl) (y_assign rfl rfl) rfl rfl rfl (fun _ h => (h.sub (by first | exact S0 | exact S1 | repeat (first | exact S1 | exact S0 | apply S2 | apply S3)))) H45 ?_
      clear H45; intro a46 H46
      refine htake 19 rfl (by kernel_rfl) (y_assign rfl rfl) rfl rfl rfl (fun _ h => (h.sub (by first | exact S0 | exact S1 | repeat (first | exact S1 | exact S0 | apply S2 | apply S3)))) H46 ?_
      clear H46; intro a47 H47
      refine hdone (by kernel_rfl) ?_
      refine then_n ?_
      refine wp_ret ?_
      -- return 4
      refine ret2 rfl H47 rfl rfl ?_
      exact ⟨_, [], rfl, ⟨by rw [Note.writeBid, hk]; rfl, rfl⟩, H47.sep.sub (List.nil_sublist _)⟩

end Go.Proofs.YtaeahloenahelaaDoor.A_Lay

set_option linter.unusedVariables false
set_option linter.unusedSimpArgs false
namespace Go.Proofs.YtaeahloenahelaaDoor.A_Eq
open Go.Sx Go.RowKit

theorem z_agg28 : aggB Tryd.prog 28 = some true := by kernel_rfl
theorem z_size28 : sizeB Tryd.prog 28 = some 32 := by kernel_rfl
theorem q_len_c4b32 {a0 a1 a2 a3 : Value} {t4 : List UInt8} (h4 : t4.length = 32) : (a0 :: a1 :: a2 :: a3 :: t4.map u8).length = 36 := (len_c (n := 35) (len_c (n := 34) (len_c (n := 33) (len_c (n := 32) (len_e (k := 32) h4)))))
theorem q_ld_c4b32_4_32 {a0 a1 a2 a3 : Value} {t4 : List UInt8} (h4 : t4.length = 32) : ((a0 :: a1 :: a2 :: a3 :: t4.map u8).drop 4).take 32 = t4.map u8 := (ld_c (o := 3) (ld_c (o := 2) (ld_c (o := 1) (ld_c (o := 0) (ld_a (len_e (k := 32) h4))))))
theorem z_size5 : sizeB Tryd.prog 5 = some 1 := by kernel_rfl
theorem z_agg3 : aggB Tryd.prog 3 = some false := by kernel_rfl
theorem q_ix_c4b32_3 {a0 a1 a2 a3 : Value} {t4 : List UInt8} : (a0 :: a1 :: a2 :: a3 :: t4.map u8)[3]? = some a3 := (ix_c (o := 2) (ix_c (o := 1) (ix_c (o := 0) ix_0)))
theorem q_ix_c4b32_2 {a0 a1 a2 a3 : Value} {t4 : List UInt8} : (a0 :: a1 :: a2 :: a3 :: t4.map u8)[2]? = some a2 := (ix_c (o := 1) (ix_c (o := 0) ix_0))
theorem q_ix_c4b32_1 {a0 a1 a2 a3 : Value} {t4 : List UInt8} : (a0 :: a1 :: a2 :: a3 :: t4.map u8)[1]? = some a1 := (ix_c (o := 0) ix_0)
theorem q_ix_c4b32_0 {a0 a1 a2 a3 : Value} {t4 : List UInt8} : (a0 :: a1 :: a2 :: a3 :: t4.map u8)[0]? = some a0 := ix_0
theorem eqr_Bid (x y : Note.Bid) (hx_tag : x.tag.length = 32) (hy_tag : y.tag.length = 32) : EqR Tryd.prog 10000 30 (.agg (Note.Bid.cells x).toArray) (.agg (Note.Bid.cells y).toArray) (decide (x = y)) := by
  have h : EqR Tryd.prog 10000 30 (.agg (Note.Bid.cells x).toArray) (.agg (Note.Bid.cells y).toArray) (decide (x.round = y.round) && (decide (x.who = y.who) && (decide (x.amount = y.amount) && (decide (x.salt = y.salt) && (decide (x.tag = y.tag) && true))))) := eqr_struct Tryd.underlying30 (by kernel_rfl) (eqf_c (by decide) (pa_1 z_agg3 q_ix_c4b32_0) (pa_1 z_agg3 q_ix_c4b32_0) (eqr_int Tryd.underlying3) (eqf_c (by decide) (pa_1 z_agg3 q_ix_c4b32_1) (pa_1 z_agg3 q_ix_c4b32_1) (eqr_int Tryd.underlying3) (eqf_c (by decide) (pa_1 z_agg3 q_ix_c4b32_2) (pa_1 z_agg3 q_ix_c4b32_2) (eqr_int Tryd.underlying3) (eqf_c (by decide) (pa_1 z_agg3 q_ix_c4b32_3) (pa_1 z_agg3 q_ix_c4b32_3) (eqr_int Tryd.underlying3) (eqf_c (by decide) (pa_a z_agg28 z_size28 (q_len_c4b32 (by assumption)) (by decide) (q_ld_c4b32_4_32 (by assumption))) (pa_a z_agg28 z_size28 (q_len_c4b32 (by assumption)) (by decide) (q_ld_c4b32_4_32 (by assumption))) (eqr_bytes Tryd.underlying28 Tryd.underlying5 z_size5 hx_tag hy_tag) eqf_n)))))
  have e : decide (x = y) = (decide (x.round = y.round) && (decide (x.who = y.who) && (decide (x.amount = y.amount) && (decide (x.salt = y.salt) && (decide (x.tag = y.tag) && true))))) := by
    rw [Bool.eq_iff_iff]
    cases x
    cases y
    simp
  rw [e]
  exact h

end Go.Proofs.YtaeahloenahelaaDoor.A_Eq

set_option linter.unusedVariables false
set_option linter.unusedSimpArgs false
namespace Go.Proofs.YtaeahloenahelaaDoor.A_Ref0
open Go.Sx Go.RowKit Go.Proofs.YtaeahloenahelaaDoor.A_Num Go.Proofs.YtaeahloenahelaaDoor.A_Lay

theorem z_call96 : callB Tryd.prog 96 = true := by kernel_rfl

set_option maxRecDepth 100000 in
set_option maxHeartbeats 1000000 in
theorem rwithin (n k : Int) (w : World) : Calls Tryd.prog 94 #[.int .i64 n, .int .i64 k] w (Gives (.bool (decide (0 ≤ n ∧ n ≤ k))) [] w) := by
  have lz32 : (List.replicate 32 (0 : UInt8)).length = 32 := List.length_replicate
  refine enterL (args := [.int .i64 n, .int .i64 k]) Tryd.func94 rfl rfl (l := []) (Sep.refl _) ?_
  intro a0 H0
  refine wp_seq ?_
  refine reg ?_
  refine plain (y_assign rfl rfl) rfl rfl rfl H0 ?_
  clear H0; intro a1 H1
  refine fin ?_
  refine then_n ?_
  refine wp_seq ?_
  refine reg ?_
  refine plain (y_move rfl rfl) rfl rfl rfl H1 ?_
  clear H1; intro a2 H2
  refine plain (y_geq rfl rfl rfl) rfl rfl rfl H2 ?_
  clear H2; intro a3 H3
  refine plain (y_move rfl rfl) rfl rfl rfl H3 ?_
  clear H3; intro a4 H4
  refine Sx.part (d := 7) H4 rfl (fun hg5 => ?_) (fun hg5 => ?_)
  · first
    | fail
    | skip
      clear H4; intro H6
      try simp only [decide_eq_true_eq, decide_eq_false_iff_not, Bool.not_eq_true', Bool.not_eq_false', Bool.and_eq_true, Bool.not_eq_true, Bool.not_eq_false] at hg5
      refine plain (y_move rfl rfl) rfl rfl rfl H6 ?_
      clear H6; intro a7 H7
      refine plain (y_move rfl rfl) rfl rfl rfl H7 ?_
      clear H7; intro a8 H8
      refine plain (y_leq rfl rfl rfl) rfl rfl rfl H8 ?_
      clear H8; intro a9 H9
      refine plain (y_pick_t rfl rfl rfl) rfl rfl rfl H9 ?_
      clear H9; intro a10 H10
      refine plain (y_assign rfl rfl) rfl rfl rfl H10 ?_
      clear H10; intro a11 H11
      refine fin ?_
      refine then_n ?_
      refine wp_ret ?_
      -- return 1
      refine ret1 rfl H11 rfl ?_
      refine ⟨_, [], rfl, ⟨?_, rfl⟩, H11.sep.sub (List.nil_sublist _)⟩
      clear H11
      first | exact congrArg Value.bool (decide_eq_decide.2 (by omega)) | exact congrArg Value.bool (decide_eq_false (by omega)).symm
  · first
    | fail
    | skip
      clear H4; intro H12
      try simp only [decide_eq_true_eq, decide_eq_false_iff_not, Bool.not_eq_true', Bool.not_eq_false', Bool.and_eq_true, Bool.not_eq_true, Bool.not_eq_false] at hg5
      refine skip rfl rfl rfl H12 ?_
      clear H12; intro a13 H13
      refine skip rfl rfl rfl H13 ?_
      clear H13; intro a14 H14
      refine skip rfl rfl rfl H14 ?_
      clear H14; intro a15 H15
      refine plain (y_pick_f rfl rfl rfl) rfl rfl rfl H15 ?_
      clear H15; intro a16 H16
      refine plain (y_assign rfl rfl) rfl rfl rfl H16 ?_
      clear H16; intro a17 H17
      refine fin ?_
      refine then_n ?_
      refine wp_ret ?_
      -- return 2
      refine ret1 rfl H17 rfl ?_
      refine ⟨_, [], rfl, ⟨?_, rfl⟩, H17.sep.sub (List.nil_sublist _)⟩
      clear H17
      first | exact congrArg Value.bool (decide_eq_decide.2 (by omega)) | exact congrArg Value.bool (decide_eq_false (by omega)).symm
set_option maxRecDepth 100000 in
set_option maxHeartbeats 1000000 in
theorem rtext (n : Int) (hn : n ≤ 9223372036854775807) (w : World) : Calls Tryd.prog 75 #[.int .i64 n] w (Gives (str (Note.num n)) [] w) := by
  have lz32 : (List.replicate 32 (0 : UInt8)).length = 32 := List.length_replicate
  refine enterL (args := [.int .i64 n]) Tryd.func75 rfl rfl (l := []) (Sep.refl _) ?_
  intro a0 H0
  refine wp_seq ?_
  refine reg ?_
  refine plain (y_assign rfl rfl) rfl rfl rfl H0 ?_
  clear H0; intro a1 H1
  refine fin ?_
  refine then_n ?_
  refine wp_seq ?_
  refine reg ?_
  refine plain (y_move rfl rfl) rfl rfl rfl H1 ?_
  clear H1; intro a2 H2
  refine st_callg rfl z_call96 rfl rfl rfl rfl H2 (numR n hn _) ?_
  clear H2; intro a3 wx3 H3
  refine plain (y_move rfl rfl) rfl rfl rfl H3 ?_
  clear H3; intro a4 H4
  refine plain (y_extract rfl rfl rfl) rfl rfl rfl H4 ?_
  clear H4; intro a5 H5
  refine plain (y_extract rfl rfl rfl) rfl rfl rfl H5 ?_
  clear H5; intro a6 H6
  refine plain (y_assign rfl rfl) rfl rfl rfl H6 ?_
  clear H6; intro a7 H7
  refine plain (y_assign rfl rfl) rfl rfl rfl H7 ?_
  clear H7; intro a8 H8
  refine fin ?_
  refine then_n ?_
  refine wp_seq ?_
  refine reg ?_
  refine plain (y_move rfl rfl) rfl rfl rfl H8 ?_
  clear H8; intro a9 H9
  refine plain (y_assign rfl rfl) rfl rfl rfl H9 ?_
  clear H9; intro a10 H10
  refine fin ?_
  refine then_n ?_
  refine wp_ret ?_
  -- return 1
  refine ret1 rfl H10 rfl ?_
  exact ⟨_, [], rfl, ⟨rfl, rfl⟩, H10.sep.sub (List.nil_sublist _)⟩

end Go.Proofs.YtaeahloenahelaaDoor.A_Ref0

set_option linter.unusedVariables false
set_option linter.unusedSimpArgs false
namespace Go.Proofs.YtaeahloenahelaaDoor.A_Sign
open Go.Sx Go.RowKit Go.Proofs.YtaeahloenahelaaDoor.A_Block Go.Proofs.YtaeahloenahelaaDoor.A_Sum Go.Proofs.YtaeahloenahelaaDoor.A_Ref Go.Proofs.YtaeahloenahelaaDoor.A_RSum Go.Proofs.YtaeahloenahelaaDoor.A_Leaf Go.Proofs.YtaeahloenahelaaDoor.A_Num Go.Proofs.YtaeahloenahelaaDoor.A_Key Go.Proofs.YtaeahloenahelaaDoor.A_Lay

theorem z_zeroN28 : zeroL Tryd.prog 28 = some ((List.replicate 32 (0 : UInt8)).map u8) := by kernel_rfl
theorem z_agg30 : aggB Tryd.prog 30 = some true := by kernel_rfl
theorem z_size30 : sizeB Tryd.prog 30 = some 36 := by kernel_rfl
theorem q_ld_c4b32_0_36 {a0 a1 a2 a3 : Value} {t4 : List UInt8} (h4 : t4.length = 32) : ((a0 :: a1 :: a2 :: a3 :: t4.map u8).drop 0).take 36 = a0 :: a1 :: a2 :: a3 :: t4.map u8 := (ld_a (len_c (n := 35) (len_c (n := 34) (len_c (n := 33) (len_c (n := 32) (len_e (k := 32) h4))))))
theorem q_len_c4b32 {a0 a1 a2 a3 : Value} {t4 : List UInt8} (h4 : t4.length = 32) : (a0 :: a1 :: a2 :: a3 :: t4.map u8).length = 36 := (len_c (n := 35) (len_c (n := 34) (len_c (n := 33) (len_c (n := 32) (len_e (k := 32) h4)))))
theorem z_call86 : callB Tryd.prog 86 = true := by kernel_rfl
theorem z_size5 : sizeB Tryd.prog 5 = some 1 := by kernel_rfl
theorem z_size28 : sizeB Tryd.prog 28 = some 32 := by kernel_rfl
theorem q_one_b32 {t0 : List UInt8} : (t0.map u8).all (·.oneCell') = true := (one_u8 _)
theorem q_len_b32 {t0 : List UInt8} (h0 : t0.length = 32) : (t0.map u8).length = 32 := (len_e (k := 32) h0)
theorem q_spl_b32_0_b32 {t0 : List UInt8} {s0 : List UInt8} (h0 : t0.length = 32) (g0 : s0.length = 32) : spl (t0.map u8) 0 (s0.map u8) = s0.map u8 := (spl_a (z := 32) (len_e (k := 32) h0) (len_e (k := 32) g0))
theorem z_agg28 : aggB Tryd.prog 28 = some true := by kernel_rfl
theorem z_field30_0 : fieldB Tryd.prog 30 0 = some 0 := by kernel_rfl
theorem z_agg3 : aggB Tryd.prog 3 = some false := by kernel_rfl
theorem q_ix_c4b32_0 {a0 a1 a2 a3 : Value} {t4 : List UInt8} : (a0 :: a1 :: a2 :: a3 :: t4.map u8)[0]? = some a0 := ix_0
theorem z_field30_1 : fieldB Tryd.prog 30 1 = some 1 := by kernel_rfl
theorem q_ix_c4b32_1 {a0 a1 a2 a3 : Value} {t4 : List UInt8} : (a0 :: a1 :: a2 :: a3 :: t4.map u8)[1]? = some a1 := (ix_c (o := 0) ix_0)
theorem z_field30_2 : fieldB Tryd.prog 30 2 = some 2 := by kernel_rfl
theorem q_ix_c4b32_2 {a0 a1 a2 a3 : Value} {t4 : List UInt8} : (a0 :: a1 :: a2 :: a3 :: t4.map u8)[2]? = some a2 := (ix_c (o := 1) (ix_c (o := 0) ix_0))
theorem z_field30_3 : fieldB Tryd.prog 30 3 = some 3 := by kernel_rfl
theorem q_ix_c4b32_3 {a0 a1 a2 a3 : Value} {t4 : List UInt8} : (a0 :: a1 :: a2 :: a3 :: t4.map u8)[3]? = some a3 := (ix_c (o := 2) (ix_c (o := 1) (ix_c (o := 0) ix_0)))
theorem z_size3 : sizeB Tryd.prog 3 = some 1 := by kernel_rfl
theorem z_zero3 : zeroL Tryd.prog 3 = some ([.int .i64 0]) := by kernel_rfl
theorem z_call88 : callB Tryd.prog 88 = true := by kernel_rfl
theorem z_call87 : callB Tryd.prog 87 = true := by kernel_rfl
theorem z_call84 : callB Tryd.prog 84 = true := by kernel_rfl
theorem z_call85 : callB Tryd.prog 85 = true := by kernel_rfl
theorem q_ld_b32_0_32 {t0 : List UInt8} (h0 : t0.length = 32) : ((t0.map u8).drop 0).take 32 = t0.map u8 := (ld_a (len_e (k := 32) h0))
theorem z_field30_4 : fieldB Tryd.prog 30 4 = some 4 := by kernel_rfl
theorem q_ld_c4b32_4_32 {a0 a1 a2 a3 : Value} {t4 : List UInt8} (h4 : t4.length = 32) : ((a0 :: a1 :: a2 :: a3 :: t4.map u8).drop 4).take 32 = t4.map u8 := (ld_c (o := 3) (ld_c (o := 2) (ld_c (o := 1) (ld_c (o := 0) (ld_a (len_e (k := 32) h4))))))

set_option maxRecDepth 100000 in
set_option maxHeartbeats 1000000 in
theorem ntag (b : Note.Bid) (wf : Note.Bid.Wf b) {w : World} (hG : Glob 0 Sha.K w) : Calls Tryd.prog 85 #[.agg (Note.Bid.cells b).toArray] w (Gives (.tuple #[.agg ((if b.ok then (Seal.tag b.who 3 b.said).1 else Note.Z).map u8).toArray, .int .i64 (if b.ok then 0 else 2)]) [] w) := by
  have lz32 : (List.replicate 32 (0 : UInt8)).length = 32 := List.length_replicate
  have lz0 := wf.tag
  refine enterL (args := [.agg (Note.Bid.cells b).toArray]) Tryd.func85 rfl rfl (l := []) (Sep.refl _) ?_
  intro a0 H0
  refine wp_seq ?_
  refine reg ?_
  refine st_box rfl rfl (agg_cells _) rfl rfl rfl H0 ?_
  clear H0; intro b1 a1 wx1 H1
  refine st_alloc rfl z_zeroN28 rfl rfl rfl H1 ?_
  clear H1; intro b2 a2 wx2 H2
  refine plain (y_assign rfl rfl) rfl rfl rfl H2 ?_
  clear H2; intro a3 H3
  refine fin ?_
  refine then_n ?_
  refine wp_seq ?_
  refine wp_seq ?_
  refine reg ?_
  refine plain (y_loadAB rfl z_agg30 z_size30 rfl (by repeat (first | exact Mh | apply Mt)) (q_ld_c4b32_0_36 (by first | assumption | exact Seal.tag_len _ _ _)) (q_len_c4b32 (by first | assumption | exact Seal.tag_len _ _ _))) rfl rfl rfl H3 ?_
  clear H3; intro a4 H4
  refine st_callg rfl z_call86 rfl rfl rfl rfl H4 (nbid b wf _) ?_
  clear H4; intro a5 wx5 H5
  refine plain ((by first | exact y_not_d rfl rfl | exact y_not rfl rfl)) rfl rfl rfl H5 ?_
  clear H5; intro a6 H6
  refine fin ?_
  refine then_n ?_
  refine cnd H6 rfl (fun hc7 => ?_) (fun hc7 => ?_) -- cond 1
  · skip
    try simp only [decide_eq_true_eq, decide_eq_false_iff_not, Bool.not_eq_true', Bool.not_eq_false', Bool.and_eq_true, Bool.not_eq_true, Bool.not_eq_false] at hc7
    have hk := hc7
    refine wp_seq ?_
    refine reg ?_
    refine plain (y_buildA rfl z_zeroN28 Tryd.underlying28 z_size5 rfl lay_n) rfl rfl rfl H6 ?_
    clear H6; intro a8 H8
    refine st_storeN rfl z_size28 rfl rfl (agg_cells _) (by repeat (first | exact Uh | apply Ut)) q_one_b32 (q_len_b32 (by first | assumption | exact Seal.tag_len _ _ _)) (q_len_b32 (by first | assumption | exact Seal.tag_len _ _ _)) (q_spl_b32_0_b32 (by first | assumption | exact Seal.tag_len _ _ _) (by first | assumption | exact Seal.tag_len _ _ _)) (by decide) rfl rfl H8 ?_
    clear H8; intro wx9 H9
    refine plain (y_assign rfl rfl) rfl rfl rfl H9 ?_
    clear H9; intro a10 H10
    refine fin ?_
    refine then_n ?_
    refine wp_ret ?_
    refine then_r ?_
    -- return 1
    refine retct rfl H10 rfl z_agg28 z_size28 (by repeat (first | exact Mh | apply Mt)) (q_len_b32 (by first | assumption | exact Seal.tag_len _ _ _)) rfl ?_
    refine ⟨_, [], rfl, ⟨?_, rfl⟩, H10.sep.sub (List.nil_sublist _)⟩
    rw [hk]
    rfl
  · skip
    try simp only [decide_eq_true_eq, decide_eq_false_iff_not, Bool.not_eq_true', Bool.not_eq_false', Bool.and_eq_true, Bool.not_eq_true, Bool.not_eq_false] at hc7
    have hk := hc7
    refine wp_skip ?_
    refine then_n ?_
    refine wp_seq ?_
    refine reg ?_
    refine plain (y_fieldB rfl z_field30_0 rfl (by first | (simp only [Nat.zero_add, Nat.add_zero, Nat.reduceAdd]; rfl) | rfl)) rfl rfl rfl H6 ?_
    clear H6; intro a11 H11
    refine plain (y_loadB rfl z_agg3 rfl (by repeat (first | exact Mh | apply Mt)) q_ix_c4b32_0) rfl rfl rfl H11 ?_
    clear H11; intro a12 H12
    refine plain (y_fieldB rfl z_field30_1 rfl (by first | (simp only [Nat.zero_add, Nat.add_zero, Nat.reduceAdd]; rfl) | rfl)) rfl rfl rfl H12 ?_
    clear H12; intro a13 H13
    refine plain (y_loadB rfl z_agg3 rfl (by repeat (first | exact Mh | apply Mt)) q_ix_c4b32_1) rfl rfl rfl H13 ?_
    clear H13; intro a14 H14
    refine plain (y_fieldB rfl z_field30_2 rfl (by first | (simp only [Nat.zero_add, Nat.add_zero, Nat.reduceAdd]; rfl) | rfl)) rfl rfl rfl H14 ?_
    clear H14; intro a15 H15
    refine plain (y_loadB rfl z_agg3 rfl (by repeat (first | exact Mh | apply Mt)) q_ix_c4b32_2) rfl rfl rfl H15 ?_
    clear H15; intro a16 H16
    refine plain (y_fieldB rfl z_field30_3 rfl (by first | (simp only [Nat.zero_add, Nat.add_zero, Nat.reduceAdd]; rfl) | rfl)) rfl rfl rfl H16 ?_
    clear H16; intro a17 H17
    refine plain (y_loadB rfl z_agg3 rfl (by repeat (first | exact Mh | apply Mt)) q_ix_c4b32_3) rfl rfl rfl H17 ?_
    clear H17; intro a18 H18
    refine st_buildSlice1 (xs := [.tmp 12, .tmp 14, .tmp 16, .tmp 18]) rfl Tryd.underlying23 z_size3 z_zero3 rfl rfl rfl rfl rfl rfl rfl rfl rfl H18 ?_
    clear H18; intro b19 a19 wx19 H19
    refine st_call rfl z_call88 rfl rfl rfl rfl H19 (nlay [b.round, b.who, b.amount, b.salt] _ _ _ rfl (by simp) (by intro x hx; simp only [List.mem_cons, List.not_mem_nil, or_false] at hx; rcases hx with rfl | rfl | rfl | rfl <;> first | exact wf.round.2 | exact wf.who.2 | exact wf.amount.2 | exact wf.salt.2) (Rd.ofSep (rd_blkA (by repeat (first | exact Mh | apply Mt))) H19.sep)) ?_
    clear H19; intro v20 l20 a20 wx20 hf20 H20
    obtain rfl := hf20
    simp only [List.cons_append, List.nil_append] at H20
    obtain ⟨Ar20, cr20, hvr20, hRr20, hmr20⟩ := row_shape (v := v20) H20.sep (by repeat (first | exact Mh | apply Mt))
    subst hvr20
    refine st_callg rfl z_call87 rfl rfl rfl rfl H20 (nwrite [Note.num b.round, Note.num b.who, Note.num b.amount, Note.num b.salt] _ _ _ rfl (Rd.ofSep (rd_row (by repeat (first | exact Mh | apply Mt))) H20.sep) (by simp)) ?_
    clear H20; intro a21 wx21 H21
    refine plain (y_move rfl rfl) rfl rfl rfl H21 ?_
    clear H21; intro a22 H22
    refine plain (y_extract rfl rfl rfl) rfl rfl rfl H22 ?_
    clear H22; intro a23 H23
    refine plain (y_extract rfl rfl rfl) rfl rfl rfl H23 ?_
    clear H23; intro a24 H24
    refine plain (y_assign rfl rfl) rfl rfl rfl H24 ?_
    clear H24; intro a25 H25
    refine plain (y_assign rfl rfl) rfl rfl rfl H25 ?_
    clear H25; intro a26 H26
    refine fin ?_
    refine then_n ?_
    refine wp_seq ?_
    refine reg ?_
    refine plain (y_fieldB rfl z_field30_1 rfl (by first | (simp only [Nat.zero_add, Nat.add_zero, Nat.reduceAdd]; rfl) | rfl)) rfl rfl rfl H26 ?_
    clear H26; intro a27 H27
    refine plain (y_loadB rfl z_agg3 rfl (by repeat (first | exact Mh | apply Mt)) q_ix_c4b32_1) rfl rfl rfl H27 ?_
    clear H27; intro a28 H28
    refine plain (y_move rfl rfl) rfl rfl rfl H28 ?_
    clear H28; intro a29 H29
    refine st_callg rfl z_call84 rfl rfl rfl rfl H29 (stag b.who 3 wf.who (by omega) b.said (by have := Oct.list_len (l := [Note.num b.round, Note.num b.who, Note.num b.amount, Note.num b.salt]); unfold Note.Bid.said; omega) (hG.frm H29.sep.frm (by simp))) ?_
    clear H29; intro a30 wx30 H30
    refine plain (y_extract rfl rfl rfl) rfl rfl rfl H30 ?_
    clear H30; intro a31 H31
    refine plain (y_extract rfl rfl rfl) rfl rfl rfl H31 ?_
    clear H31; intro a32 H32
    refine st_storeN rfl z_size28 rfl rfl (agg_cells _) (by repeat (first | exact Uh | apply Ut)) q_one_b32 (q_len_b32 (by first | assumption | exact Seal.tag_len _ _ _)) (q_len_b32 (by first | assumption | exact Seal.tag_len _ _ _)) (q_spl_b32_0_b32 (by first | assumption | exact Seal.tag_len _ _ _) (by first | assumption | exact Seal.tag_len _ _ _)) (by decide) rfl rfl H32 ?_
    clear H32; intro wx33 H33
    refine plain (y_assign rfl rfl) rfl rfl rfl H33 ?_
    clear H33; intro a34 H34
    refine fin ?_
    refine then_n ?_
    refine wp_ret ?_
    -- return 2
    refine retct rfl H34 rfl z_agg28 z_size28 (by repeat (first | exact Mh | apply Mt)) (q_len_b32 (by first | assumption | exact Seal.tag_len _ _ _)) rfl ?_
    refine ⟨_, [], rfl, ⟨?_, rfl⟩, H34.sep.sub (List.nil_sublist _)⟩
    rw [hk, if_pos rfl, if_pos rfl, Note.tag_good _ (Note.ok_who hk).2.1.1 (Note.ok_who hk).2.1.2]
set_option maxRecDepth 100000 in
set_option maxHeartbeats 1000000 in
theorem ncheck (b : Note.Bid) (wf : Note.Bid.Wf b) {w : World} (hG : Glob 0 Sha.K w) : Calls Tryd.prog 63 #[.agg (Note.Bid.cells b).toArray] w (Gives (.int .i64 (Note.checkBid b)) [] w) := by
  have htl := Note.tagl b
  have lz32 : (List.replicate 32 (0 : UInt8)).length = 32 := List.length_replicate
  have lz0 := wf.tag
  refine enterL (args := [.agg (Note.Bid.cells b).toArray]) Tryd.func63 rfl rfl (l := []) (Sep.refl _) ?_
  intro a0 H0
  refine wp_seq ?_
  refine reg ?_
  refine st_box rfl rfl (agg_cells _) rfl rfl rfl H0 ?_
  clear H0; intro b1 a1 wx1 H1
  refine plain (y_assign rfl rfl) rfl rfl rfl H1 ?_
  clear H1; intro a2 H2
  refine fin ?_
  refine then_n ?_
  refine wp_seq ?_
  refine reg ?_
  refine plain (y_loadAB rfl z_agg30 z_size30 rfl (by repeat (first | exact Mh | apply Mt)) (q_ld_c4b32_0_36 (by assumption)) (q_len_c4b32 (by assumption))) rfl rfl rfl H2 ?_
  clear H2; intro a3 H3
  refine st_callg rfl z_call85 rfl rfl rfl rfl H3 (ntag b wf (hG.frm H3.sep.frm (by simp))) ?_
  clear H3; intro a4 wx4 H4
  refine plain (y_move rfl rfl) rfl rfl rfl H4 ?_
  clear H4; intro a5 H5
  refine plain (y_extract rfl rfl rfl) rfl rfl rfl H5 ?_
  clear H5; intro a6 H6
  refine plain (y_extract rfl rfl rfl) rfl rfl rfl H6 ?_
  clear H6; intro a7 H7
  refine st_alloc rfl z_zeroN28 rfl rfl rfl H7 ?_
  clear H7; intro b8 a8 wx8 H8
  refine st_storeN rfl z_size28 rfl rfl (agg_cells _) (by repeat (first | exact Uh | apply Ut)) q_one_b32 (q_len_b32 (by assumption)) (q_len_b32 (by assumption)) (q_spl_b32_0_b32 (by assumption) (by assumption)) (by decide) rfl rfl H8 ?_
  clear H8; intro wx9 H9
  refine plain (y_assign rfl rfl) rfl rfl rfl H9 ?_
  clear H9; intro a10 H10
  refine fin ?_
  refine then_n ?_
  refine wp_seq ?_
  refine wp_seq ?_
  refine reg ?_
  refine plain (y_move rfl rfl) rfl rfl rfl H10 ?_
  clear H10; intro a11 H11
  refine plain (y_eql rfl rfl rfl) rfl rfl rfl H11 ?_
  clear H11; intro a12 H12
  refine plain (y_move rfl rfl) rfl rfl rfl H12 ?_
  clear H12; intro a13 H13
  refine Sx.part (d := 12) H13 rfl (fun hg14 => ?_) (fun hg14 => ?_)
  · first
    | fail
    | skip
      clear H13; intro H15
      try simp only [decide_eq_true_eq, decide_eq_false_iff_not, Bool.not_eq_true', Bool.not_eq_false', Bool.and_eq_true, Bool.not_eq_true, Bool.not_eq_false] at hg14
      have hk : b.ok = true := by cases h : b.ok; rw [h] at hg14; exact absurd hg14 (by decide); rfl
      refine plain (y_loadAB rfl z_agg28 z_size28 rfl (by repeat (first | exact Mh | apply Mt)) (q_ld_b32_0_32 (by assumption)) (q_len_b32 (by assumption))) rfl rfl rfl H15 ?_
      clear H15; intro a16 H16
      refine plain (y_fieldB rfl z_field30_4 rfl (by first | (simp only [Nat.zero_add, Nat.add_zero, Nat.reduceAdd]; rfl) | rfl)) rfl rfl rfl H16 ?_
      clear H16; intro a17 H17
      refine plain (y_loadAB rfl z_agg28 z_size28 rfl (by repeat (first | exact Mh | apply Mt)) (q_ld_c4b32_4_32 (by assumption)) (q_len_b32 (by assumption))) rfl rfl rfl H17 ?_
      clear H17; intro a18 H18
      refine plain (y_hneq rfl Tryd.eqGuardType28 Tryd.underlying28 Tryd.underlying5 z_size5 rfl rfl (by assumption) (by assumption)) rfl rfl rfl H18 ?_
      clear H18; intro a19 H19
      refine plain (y_pick_t rfl rfl rfl) rfl rfl rfl H19 ?_
      clear H19; intro a20 H20
      refine fin ?_
      refine then_n ?_
      refine cnd H20 rfl (fun hc21 => ?_) (fun hc21 => ?_) -- cond 1
      · skip
        try simp only [decide_eq_true_eq, decide_eq_false_iff_not, Bool.not_eq_true', Bool.not_eq_false', Bool.and_eq_true, Bool.not_eq_true, Bool.not_eq_false] at hc21
        refine wp_seq ?_
        refine reg ?_
        refine plain (y_assign rfl rfl) rfl rfl rfl H20 ?_
        clear H20; intro a22 H22
        refine fin ?_
        refine then_n ?_
        refine wp_ret ?_
        refine then_r ?_
        -- return 1
        refine ret1 rfl H22 rfl ?_
        refine ⟨_, [], rfl, ⟨?_, rfl⟩, H22.sep.sub (List.nil_sublist _)⟩
        rw [Note.checkBid, hk]
        rw [hk] at *
        simp_all
      · skip
        try simp only [decide_eq_true_eq, decide_eq_false_iff_not, Bool.not_eq_true', Bool.not_eq_false', Bool.and_eq_true, Bool.not_eq_true, Bool.not_eq_false] at hc21
        refine wp_skip ?_
        refine then_n ?_
        refine wp_seq ?_
        refine reg ?_
        refine plain (y_move rfl rfl) rfl rfl rfl H20 ?_
        clear H20; intro a23 H23
        refine plain (y_assign rfl rfl) rfl rfl rfl H23 ?_
        clear H23; intro a24 H24
        refine fin ?_
        refine then_n ?_
        refine wp_ret ?_
        -- return 2
        refine ret1 rfl H24 rfl ?_
        refine ⟨_, [], rfl, ⟨?_, rfl⟩, H24.sep.sub (List.nil_sublist _)⟩
        rw [Note.checkBid, hk]
        rw [hk] at *
        simp_all
  · first
    | fail
    | skip
      clear H13; intro H25
      try simp only [decide_eq_true_eq, decide_eq_false_iff_not, Bool.not_eq_true', Bool.not_eq_false', Bool.and_eq_true, Bool.not_eq_true, Bool.not_eq_false] at hg14
      have hk : b.ok = false := by cases h : b.ok; rfl; rw [h] at hg14; exact absurd rfl hg14
      refine skip rfl rfl rfl H25 ?_
      clear H25; intro a26 H26
      refine skip rfl rfl rfl H26 ?_
      clear H26; intro a27 H27
      refine skip rfl rfl rfl H27 ?_
      clear H27; intro a28 H28
      refine skip rfl rfl rfl H28 ?_
      clear H28; intro a29 H29
      refine plain (y_pick_f rfl rfl rfl) rfl rfl rfl H29 ?_
      clear H29; intro a30 H30
      refine fin ?_
      refine then_n ?_
      refine cnd_f H30 rfl ?_
      refine wp_skip ?_
      refine then_n ?_
      refine wp_seq ?_
      refine reg ?_
      refine plain (y_move rfl rfl) rfl rfl rfl H30 ?_
      clear H30; intro a32 H32
      refine plain (y_assign rfl rfl) rfl rfl rfl H32 ?_
      clear H32; intro a33 H33
      refine fin ?_
      refine then_n ?_
      refine wp_ret ?_
      -- return 3
      refine ret1 rfl H33 rfl ?_
      refine ⟨_, [], rfl, ⟨?_, rfl⟩, H33.sep.sub (List.nil_sublist _)⟩
      rw [Note.checkBid, hk]
      rw [hk] at *
      simp_all

end Go.Proofs.YtaeahloenahelaaDoor.A_Sign

set_option linter.unusedVariables false
set_option linter.unusedSimpArgs false
namespace Go.Proofs.YtaeahloenahelaaDoor.A_RefB
open Go.Sx Go.RowKit Go.Proofs.YtaeahloenahelaaDoor.A_Block Go.Proofs.YtaeahloenahelaaDoor.A_Sum Go.Proofs.YtaeahloenahelaaDoor.A_Ref Go.Proofs.YtaeahloenahelaaDoor.A_RSum Go.Proofs.YtaeahloenahelaaDoor.A_Leaf Go.Proofs.YtaeahloenahelaaDoor.A_Num Go.Proofs.YtaeahloenahelaaDoor.A_Key Go.Proofs.YtaeahloenahelaaDoor.A_Ref Go.Proofs.YtaeahloenahelaaDoor.A_RSum Go.Proofs.YtaeahloenahelaaDoor.A_Tag Go.Proofs.YtaeahloenahelaaDoor.A_Lay Go.Proofs.YtaeahloenahelaaDoor.A_Eq Go.Proofs.YtaeahloenahelaaDoor.A_Ref0

theorem z_field30_0 : fieldB Tryd.prog 30 0 = some 0 := by kernel_rfl
theorem z_agg3 : aggB Tryd.prog 3 = some false := by kernel_rfl
theorem q_ix_c4b32_0 {a0 a1 a2 a3 : Value} {t4 : List UInt8} : (a0 :: a1 :: a2 :: a3 :: t4.map u8)[0]? = some a0 := ix_0
theorem z_call94 : callB Tryd.prog 94 = true := by kernel_rfl
theorem z_field30_1 : fieldB Tryd.prog 30 1 = some 1 := by kernel_rfl
theorem q_ix_c4b32_1 {a0 a1 a2 a3 : Value} {t4 : List UInt8} : (a0 :: a1 :: a2 :: a3 :: t4.map u8)[1]? = some a1 := (ix_c (o := 0) ix_0)
theorem z_field30_2 : fieldB Tryd.prog 30 2 = some 2 := by kernel_rfl
theorem q_ix_c4b32_2 {a0 a1 a2 a3 : Value} {t4 : List UInt8} : (a0 :: a1 :: a2 :: a3 :: t4.map u8)[2]? = some a2 := (ix_c (o := 1) (ix_c (o := 0) ix_0))
theorem z_field30_3 : fieldB Tryd.prog 30 3 = some 3 := by kernel_rfl
theorem q_ix_c4b32_3 {a0 a1 a2 a3 : Value} {t4 : List UInt8} : (a0 :: a1 :: a2 :: a3 :: t4.map u8)[3]? = some a3 := (ix_c (o := 2) (ix_c (o := 1) (ix_c (o := 0) ix_0)))
theorem z_agg30 : aggB Tryd.prog 30 = some true := by kernel_rfl
theorem z_size30 : sizeB Tryd.prog 30 = some 36 := by kernel_rfl
theorem q_ld_c4b32_0_36 {a0 a1 a2 a3 : Value} {t4 : List UInt8} (h4 : t4.length = 32) : ((a0 :: a1 :: a2 :: a3 :: t4.map u8).drop 0).take 36 = a0 :: a1 :: a2 :: a3 :: t4.map u8 := (ld_a (len_c (n := 35) (len_c (n := 34) (len_c (n := 33) (len_c (n := 32) (len_e (k := 32) h4))))))
theorem q_len_c4b32 {a0 a1 a2 a3 : Value} {t4 : List UInt8} (h4 : t4.length = 32) : (a0 :: a1 :: a2 :: a3 :: t4.map u8).length = 36 := (len_c (n := 35) (len_c (n := 34) (len_c (n := 33) (len_c (n := 32) (len_e (k := 32) h4)))))
theorem z_call73 : callB Tryd.prog 73 = true := by kernel_rfl
theorem z_field30_4 : fieldB Tryd.prog 30 4 = some 4 := by kernel_rfl
theorem z_agg28 : aggB Tryd.prog 28 = some true := by kernel_rfl
theorem z_size28 : sizeB Tryd.prog 28 = some 32 := by kernel_rfl
theorem q_ld_c4b32_4_32 {a0 a1 a2 a3 : Value} {t4 : List UInt8} (h4 : t4.length = 32) : ((a0 :: a1 :: a2 :: a3 :: t4.map u8).drop 4).take 32 = t4.map u8 := (ld_c (o := 3) (ld_c (o := 2) (ld_c (o := 1) (ld_c (o := 0) (ld_a (len_e (k := 32) h4))))))
theorem q_len_b32 {t0 : List UInt8} (h0 : t0.length = 32) : (t0.map u8).length = 32 := (len_e (k := 32) h0)
theorem z_call75 : callB Tryd.prog 75 = true := by kernel_rfl
theorem z_call71 : callB Tryd.prog 71 = true := by kernel_rfl
theorem z_size9 : sizeB Tryd.prog 9 = some 1 := by kernel_rfl
theorem z_zero9 : zeroL Tryd.prog 9 = some ([.string ⟨#[]⟩]) := by kernel_rfl
theorem z_call74 : callB Tryd.prog 74 = true := by kernel_rfl
theorem z_zeroN30 : zeroL Tryd.prog 30 = some ((.int .i64 0 :: (.int .i64 0 :: (.int .i64 0 :: (.int .i64 0 :: (List.replicate 32 (0 : UInt8)).map u8))))) := by kernel_rfl
theorem z_places30 : placesB Tryd.prog 30 = some [(0, 1), (1, 1), (2, 1), (3, 1), (4, 32)] := by kernel_rfl
theorem q_one_c4b32 {a0 a1 a2 a3 : Value} {t4 : List UInt8} (o0 : a0.oneCell' = true) (o1 : a1.oneCell' = true) (o2 : a2.oneCell' = true) (o3 : a3.oneCell' = true) : (a0 :: a1 :: a2 :: a3 :: t4.map u8).all (·.oneCell') = true := (one_c o0 (one_c o1 (one_c o2 (one_c o3 (one_u8 _)))))
theorem q_spl_c4b32_0_c4b32 {a0 a1 a2 a3 : Value} {t4 : List UInt8} {b0 b1 b2 b3 : Value} {s4 : List UInt8} (h4 : t4.length = 32) (g4 : s4.length = 32) : spl (a0 :: a1 :: a2 :: a3 :: t4.map u8) 0 (b0 :: b1 :: b2 :: b3 :: s4.map u8) = b0 :: b1 :: b2 :: b3 :: s4.map u8 := (spl_a (z := 36) (len_c (n := 35) (len_c (n := 34) (len_c (n := 33) (len_c (n := 32) (len_e (k := 32) h4))))) (len_c (n := 35) (len_c (n := 34) (len_c (n := 33) (len_c (n := 32) (len_e (k := 32) g4))))))
theorem z_call76 : callB Tryd.prog 76 = true := by kernel_rfl
theorem z_zeroN28 : zeroL Tryd.prog 28 = some ((List.replicate 32 (0 : UInt8)).map u8) := by kernel_rfl
theorem q_one_b32 {t0 : List UInt8} : (t0.map u8).all (·.oneCell') = true := (one_u8 _)
theorem q_spl_b32_0_b32 {t0 : List UInt8} {s0 : List UInt8} (h0 : t0.length = 32) (g0 : s0.length = 32) : spl (t0.map u8) 0 (s0.map u8) = s0.map u8 := (spl_a (z := 32) (len_e (k := 32) h0) (len_e (k := 32) g0))
theorem q_ld_b32_0_32 {t0 : List UInt8} (h0 : t0.length = 32) : ((t0.map u8).drop 0).take 32 = t0.map u8 := (ld_a (len_e (k := 32) h0))
theorem q_spl_c4b32_4_b32 {a0 a1 a2 a3 : Value} {t4 : List UInt8} {s0 : List UInt8} (h4 : t4.length = 32) (g0 : s0.length = 32) : spl (a0 :: a1 :: a2 :: a3 :: t4.map u8) 4 (s0.map u8) = a0 :: a1 :: a2 :: a3 :: s0.map u8 := (spl_c (o := 3) (spl_c (o := 2) (spl_c (o := 1) (spl_c (o := 0) (spl_a (z := 32) (len_e (k := 32) h4) (len_e (k := 32) g0))))))
theorem z_call50 : callB Tryd.prog 50 = true := by kernel_rfl

set_option maxRecDepth 100000 in
set_option maxHeartbeats 1000000 in
theorem rbid (b : Note.Bid) (wf : Note.Bid.Wf b) (w : World) : Calls Tryd.prog 73 #[.agg (Note.Bid.cells b).toArray] w (Gives (.bool b.ok) [] w) := by
  have lz32 : (List.replicate 32 (0 : UInt8)).length = 32 := List.length_replicate
  have lz0 := wf.tag
  refine enterL (args := [.agg (Note.Bid.cells b).toArray]) Tryd.func73 rfl rfl (l := []) (Sep.refl _) ?_
  intro a0 H0
  refine wp_seq ?_
  refine reg ?_
  refine st_box rfl rfl (agg_cells _) rfl rfl rfl H0 ?_
  clear H0; intro b1 a1 wx1 H1
  refine plain (y_assign rfl rfl) rfl rfl rfl H1 ?_
  clear H1; intro a2 H2
  refine fin ?_
  refine then_n ?_
  refine wp_seq ?_
  refine reg ?_
  refine plain (y_fieldB rfl z_field30_0 rfl (by first | (simp only [Nat.zero_add, Nat.add_zero, Nat.reduceAdd]; rfl) | rfl)) rfl rfl rfl H2 ?_
  clear H2; intro a3 H3
  refine plain (y_loadB rfl z_agg3 rfl (by repeat (first | exact Mh | apply Mt)) q_ix_c4b32_0) rfl rfl rfl H3 ?_
  clear H3; intro a4 H4
  refine st_callg rfl z_call94 rfl rfl rfl rfl H4 (rwithin _ _ _) ?_
  clear H4; intro a5 wx5 H5
  refine plain (y_move rfl rfl) rfl rfl rfl H5 ?_
  clear H5; intro a6 H6
  refine Sx.part (d := 6) H6 rfl (fun hg7 => ?_) (fun hg7 => ?_)
  · first
    | fail
    | skip
      clear H6; intro H8
      try simp only [decide_eq_true_eq, decide_eq_false_iff_not, Bool.not_eq_true', Bool.not_eq_false', Bool.and_eq_true, Bool.not_eq_true, Bool.not_eq_false] at hg7
      refine plain (y_fieldB rfl z_field30_1 rfl (by first | (simp only [Nat.zero_add, Nat.add_zero, Nat.reduceAdd]; rfl) | rfl)) rfl rfl rfl H8 ?_
      clear H8; intro a9 H9
      refine plain (y_loadB rfl z_agg3 rfl (by repeat (first | exact Mh | apply Mt)) q_ix_c4b32_1) rfl rfl rfl H9 ?_
      clear H9; intro a10 H10
      refine st_callg rfl z_call94 rfl rfl rfl rfl H10 (rwithin _ _ _) ?_
      clear H10; intro a11 wx11 H11
      refine plain (y_pick_t rfl rfl rfl) rfl rfl rfl H11 ?_
      clear H11; intro a12 H12
      refine plain (y_move rfl rfl) rfl rfl rfl H12 ?_
      clear H12; intro a13 H13
      refine Sx.part (d := 11) H13 rfl (fun hg14 => ?_) (fun hg14 => ?_)
      · first
        | fail
        | skip
          clear H13; intro H15
          try simp only [decide_eq_true_eq, decide_eq_false_iff_not, Bool.not_eq_true', Bool.not_eq_false', Bool.and_eq_true, Bool.not_eq_true, Bool.not_eq_false] at hg14
          refine plain (y_fieldB rfl z_field30_2 rfl (by first | (simp only [Nat.zero_add, Nat.add_zero, Nat.reduceAdd]; rfl) | rfl)) rfl rfl rfl H15 ?_
          clear H15; intro a16 H16
          refine plain (y_loadB rfl z_agg3 rfl (by repeat (first | exact Mh | apply Mt)) q_ix_c4b32_2) rfl rfl rfl H16 ?_
          clear H16; intro a17 H17
          refine st_callg rfl z_call94 rfl rfl rfl rfl H17 (rwithin _ _ _) ?_
          clear H17; intro a18 wx18 H18
          refine plain (y_pick_t rfl rfl rfl) rfl rfl rfl H18 ?_
          clear H18; intro a19 H19
          refine plain (y_move rfl rfl) rfl rfl rfl H19 ?_
          clear H19; intro a20 H20
          refine Sx.part (d := 16) H20 rfl (fun hg21 => ?_) (fun hg21 => ?_)
          · first
            | fail
            | skip
              clear H20; intro H22
              try simp only [decide_eq_true_eq, decide_eq_false_iff_not, Bool.not_eq_true', Bool.not_eq_false', Bool.and_eq_true, Bool.not_eq_true, Bool.not_eq_false] at hg21
              refine plain (y_fieldB rfl z_field30_3 rfl (by first | (simp only [Nat.zero_add, Nat.add_zero, Nat.reduceAdd]; rfl) | rfl)) rfl rfl rfl H22 ?_
              clear H22; intro a23 H23
              refine plain (y_loadB rfl z_agg3 rfl (by repeat (first | exact Mh | apply Mt)) q_ix_c4b32_3) rfl rfl rfl H23 ?_
              clear H23; intro a24 H24
              refine st_callg rfl z_call94 rfl rfl rfl rfl H24 (rwithin _ _ _) ?_
              clear H24; intro a25 wx25 H25
              refine plain (y_pick_t rfl rfl rfl) rfl rfl rfl H25 ?_
              clear H25; intro a26 H26
              refine plain (y_assign rfl rfl) rfl rfl rfl H26 ?_
              clear H26; intro a27 H27
              refine fin ?_
              refine then_n ?_
              refine wp_ret ?_
              -- return 1
              refine ret1 rfl H27 rfl ?_
              refine ⟨_, [], rfl, ⟨?_, rfl⟩, H27.sep.sub (List.nil_sublist _)⟩
              clear H27
              rw [Note.Bid.ok_is]
              first | exact congrArg Value.bool (decide_eq_decide.2 (by omega)) | exact congrArg Value.bool (decide_eq_false (by omega)).symm | exact congrArg Value.bool (decide_eq_true (by omega)).symm
          · first
            | fail
            | skip
              clear H20; intro H28
              try simp only [decide_eq_true_eq, decide_eq_false_iff_not, Bool.not_eq_true', Bool.not_eq_false', Bool.and_eq_true, Bool.not_eq_true, Bool.not_eq_false] at hg21
              refine skip rfl rfl rfl H28 ?_
              clear H28; intro a29 H29
              refine skip rfl rfl rfl H29 ?_
              clear H29; intro a30 H30
              refine skip rfl rfl rfl H30 ?_
              clear H30; intro a31 H31
              refine plain (y_pick_f rfl rfl rfl) rfl rfl rfl H31 ?_
              clear H31; intro a32 H32
              refine plain (y_assign rfl rfl) rfl rfl rfl H32 ?_
              clear H32; intro a33 H33
              refine fin ?_
              refine then_n ?_
              refine wp_ret ?_
              -- return 2
              refine ret1 rfl H33 rfl ?_
              refine ⟨_, [], rfl, ⟨?_, rfl⟩, H33.sep.sub (List.nil_sublist _)⟩
              clear H33
              rw [Note.Bid.ok_is]
              first | exact congrArg Value.bool (decide_eq_decide.2 (by omega)) | exact congrArg Value.bool (decide_eq_false (by omega)).symm | exact congrArg Value.bool (decide_eq_true (by omega)).symm
      · first
        | fail
        | skip
          clear H13; intro H34
          try simp only [decide_eq_true_eq, decide_eq_false_iff_not, Bool.not_eq_true', Bool.not_eq_false', Bool.and_eq_true, Bool.not_eq_true, Bool.not_eq_false] at hg14
          refine skip rfl rfl rfl H34 ?_
          clear H34; intro a35 H35
          refine skip rfl rfl rfl H35 ?_
          clear H35; intro a36 H36
          refine skip rfl rfl rfl H36 ?_
          clear H36; intro a37 H37
          refine plain (y_pick_f rfl rfl rfl) rfl rfl rfl H37 ?_
          clear H37; intro a38 H38
          refine plain (y_move rfl rfl) rfl rfl rfl H38 ?_
          clear H38; intro a39 H39
          refine skip rfl rfl rfl H39 ?_
          clear H39; intro a40 H40
          refine skip rfl rfl rfl H40 ?_
          clear H40; intro a41 H41
          refine skip rfl rfl rfl H41 ?_
          clear H41; intro a42 H42
          refine plain (y_pick_f rfl rfl rfl) rfl rfl rfl H42 ?_
          clear H42; intro a43 H43
          refine plain (y_assign rfl rfl) rfl rfl rfl H43 ?_
          clear H43; intro a44 H44
          refine fin ?_
          refine then_n ?_
          refine wp_ret ?_
          -- return 3
          refine ret1 rfl H44 rfl ?_
          refine ⟨_, [], rfl, ⟨?_, rfl⟩, H44.sep.sub (List.nil_sublist _)⟩
          clear H44
          rw [Note.Bid.ok_is]
          first | exact congrArg Value.bool (decide_eq_decide.2 (by omega)) | exact congrArg Value.bool (decide_eq_false (by omega)).symm | exact congrArg Value.bool (decide_eq_true (by omega)).symm
  · first
    | fail
    | skip
      clear H6; intro H45
      try simp only [decide_eq_true_eq, decide_eq_false_iff_not, Bool.not_eq_true', Bool.not_eq_false', Bool.and_eq_true, Bool.not_eq_true, Bool.not_eq_false] at hg7
      refine skip rfl rfl rfl H45 ?_
      clear H45; intro a46 H46
      refine skip rfl rfl rfl H46 ?_
      clear H46; intro a47 H47
      refine skip rfl rfl rfl H47 ?_
      clear H47; intro a48 H48
      refine plain (y_pick_f rfl rfl rfl) rfl rfl rfl H48 ?_
      clear H48; intro a49 H49
      refine plain (y_move rfl rfl) rfl rfl rfl H49 ?_
      clear H49; intro a50 H50
      refine skip rfl rfl rfl H50 ?_
      clear H50; intro a51 H51
      refine skip rfl rfl rfl H51 ?_
      clear H51; intro a52 H52
      refine skip rfl rfl rfl H52 ?_
      clear H52; intro a53 H53
      refine plain (y_pick_f rfl rfl rfl) rfl rfl rfl H53 ?_
      clear H53; intro a54 H54
      refine plain (y_move rfl rfl) rfl rfl rfl H54 ?_
      clear H54; intro a55 H55
      refine skip rfl rfl rfl H55 ?_
      clear H55; intro a56 H56
      refine skip rfl rfl rfl H56 ?_
      clear H56; intro a57 H57
      refine skip rfl rfl rfl H57 ?_
      clear H57; intro a58 H58
      refine plain (y_pick_f rfl rfl rfl) rfl rfl rfl H58 ?_
      clear H58; intro a59 H59
      refine plain (y_assign rfl rfl) rfl rfl rfl H59 ?_
      clear H59; intro a60 H60
      refine fin ?_
      refine then_n ?_
      refine wp_ret ?_
      -- return 4
      refine ret1 rfl H60 rfl ?_
      refine ⟨_, [], rfl, ⟨?_, rfl⟩, H60.sep.sub (List.nil_sublist _)⟩
      clear H60
      rw [Note.Bid.ok_is]
      first | exact congrArg Value.bool (decide_eq_decide.2 (by omega)) | exact congrArg Value.bool (decide_eq_false (by omega)).symm | exact congrArg Value.bool (decide_eq_true (by omega)).symm
set_option maxRecDepth 100000 in
set_option maxHeartbeats 1000000 in
theorem rwbid (b : Note.Bid) (wf : Note.Bid.Wf b) (w : World) : Calls Tryd.prog 70 #[.agg (Note.Bid.cells b).toArray] w (Gives (.tuple #[str (Note.writeBid b).1, .int .i64 (Note.writeBid b).2]) [] w) := by
  have lz32 : (List.replicate 32 (0 : UInt8)).length = 32 := List.length_replicate
  have lz0 := wf.tag
  refine enterL (args := [.agg (Note.Bid.cells b).toArray]) Tryd.func70 rfl rfl (l := []) (Sep.refl _) ?_
  intro a0 H0
  refine wp_seq ?_
  refine reg ?_
  refine st_box rfl rfl (agg_cells _) rfl rfl rfl H0 ?_
  clear H0; intro b1 a1 wx1 H1
  refine plain (y_assign rfl rfl) rfl rfl rfl H1 ?_
  clear H1; intro a2 H2
  refine plain (y_assign rfl rfl) rfl rfl rfl H2 ?_
  clear H2; intro a3 H3
  refine fin ?_
  refine then_n ?_
  refine wp_seq ?_
  refine wp_seq ?_
  refine reg ?_
  refine plain (y_loadAB rfl z_agg30 z_size30 rfl (by repeat (first | exact Mh | apply Mt)) (q_ld_c4b32_0_36 (by assumption)) (q_len_c4b32 (by assumption))) rfl rfl rfl H3 ?_
  clear H3; intro a4 H4
  refine st_callg rfl z_call73 rfl rfl rfl rfl H4 (rbid b wf _) ?_
  clear H4; intro a5 wx5 H5
  refine plain ((by first | exact y_not_d rfl rfl | exact y_not rfl rfl)) rfl rfl rfl H5 ?_
  clear H5; intro a6 H6
  refine fin ?_
  refine then_n ?_
  refine cnd H6 rfl (fun hc7 => ?_) (fun hc7 => ?_) -- cond 1
  · skip
    try simp only [decide_eq_true_eq, decide_eq_false_iff_not, Bool.not_eq_true', Bool.not_eq_false', Bool.and_eq_true, Bool.not_eq_true, Bool.not_eq_false] at hc7
    have hk := hc7
    refine wp_seq ?_
    refine reg ?_
    refine plain (y_assign rfl rfl) rfl rfl rfl H6 ?_
    clear H6; intro a8 H8
    refine plain (y_assign rfl rfl) rfl rfl rfl H8 ?_
    clear H8; intro a9 H9
    refine fin ?_
    refine then_n ?_
    refine wp_ret ?_
    refine then_r ?_
    -- return 1
    refine ret2 rfl H9 rfl rfl ?_
    exact ⟨_, [], rfl, ⟨by rw [Note.writeBid, hk]; rfl, rfl⟩, H9.sep.sub (List.nil_sublist _)⟩
  · skip
    try simp only [decide_eq_true_eq, decide_eq_false_iff_not, Bool.not_eq_true', Bool.not_eq_false', Bool.and_eq_true, Bool.not_eq_true, Bool.not_eq_false] at hc7
    have hk := hc7
    refine wp_skip ?_
    refine then_n ?_
    refine wp_seq ?_
    refine hreg _ (fun _ h => h) (by kernel_rfl) H6 ?_
    clear H6; intro wx10 H10
    refine htake 0 rfl (by kernel_rfl) (y_fieldB rfl z_field30_0 rfl (by first | (simp only [Nat.zero_add, Nat.add_zero, Nat.reduceAdd]; rfl) | rfl)) rfl rfl rfl (fun _ h => (h.sub (by first | exact S0 | exact S1 | repeat (first | exact S1 | exact S0 | apply S2 | apply S3)))) H10 ?_
    clear H10; intro a11 H11
    refine htake 1 rfl (by kernel_rfl) (y_loadB rfl z_agg3 rfl (by repeat (first | exact Mh | apply Mt)) q_ix_c4b32_0) rfl rfl rfl (fun _ h => (h.sub (by first | exact S0 | exact S1 | repeat (first | exact S1 | exact S0 | apply S2 | apply S3)))) H11 ?_
    clear H11; intro a12 H12
    refine htake 3 rfl (by kernel_rfl) (y_fieldB rfl z_field30_1 rfl (by first | (simp only [Nat.zero_add, Nat.add_zero, Nat.reduceAdd]; rfl) | rfl)) rfl rfl rfl (fun _ h => (h.sub (by first | exact S0 | exact S1 | repeat (first | exact S1 | exact S0 | apply S2 | apply S3)))) H12 ?_
    clear H12; intro a13 H13
    refine htake 4 rfl (by kernel_rfl) (y_loadB rfl z_agg3 rfl (by repeat (first | exact Mh | apply Mt)) q_ix_c4b32_1) rfl rfl rfl (fun _ h => (h.sub (by first | exact S0 | exact S1 | repeat (first | exact S1 | exact S0 | apply S2 | apply S3)))) H13 ?_
    clear H13; intro a14 H14
    refine htake 6 rfl (by kernel_rfl) (y_fieldB rfl z_field30_2 rfl (by first | (simp only [Nat.zero_add, Nat.add_zero, Nat.reduceAdd]; rfl) | rfl)) rfl rfl rfl (fun _ h => (h.sub (by first | exact S0 | exact S1 | repeat (first | exact S1 | exact S0 | apply S2 | apply S3)))) H14 ?_
    clear H14; intro a15 H15
    refine htake 7 rfl (by kernel_rfl) (y_loadB rfl z_agg3 rfl (by repeat (first | exact Mh | apply Mt)) q_ix_c4b32_2) rfl rfl rfl (fun _ h => (h.sub (by first | exact S0 | exact S1 | repeat (first | exact S1 | exact S0 | apply S2 | apply S3)))) H15 ?_
    clear H15; intro a16 H16
    refine htake 9 rfl (by kernel_rfl) (y_fieldB rfl z_field30_3 rfl (by first | (simp only [Nat.zero_add, Nat.add_zero, Nat.reduceAdd]; rfl) | rfl)) rfl rfl rfl (fun _ h => (h.sub (by first | exact S0 | exact S1 | repeat (first | exact S1 | exact S0 | apply S2 | apply S3)))) H16 ?_
    clear H16; intro a17 H17
    refine htake 10 rfl (by kernel_rfl) (y_loadB rfl z_agg3 rfl (by repeat (first | exact Mh | apply Mt)) q_ix_c4b32_3) rfl rfl rfl (fun _ h => (h.sub (by first | exact S0 | exact S1 | repeat (first | exact S1 | exact S0 | apply S2 | apply S3)))) H17 ?_
    clear H17; intro a18 H18
    refine htake 12 rfl (by kernel_rfl) (y_fieldB rfl z_field30_4 rfl (by first | (simp only [Nat.zero_add, Nat.add_zero, Nat.reduceAdd]; rfl) | rfl)) rfl rfl rfl (fun _ h => (h.sub (by first | exact S0 | exact S1 | repeat (first | exact S1 | exact S0 | apply S2 | apply S3)))) H18 ?_
    clear H18; intro a19 H19
    refine htake 13 rfl (by kernel_rfl) (y_loadAB rfl z_agg28 z_size28 rfl (by repeat (first | exact Mh | apply Mt)) (q_ld_c4b32_4_32 (by assumption)) (q_len_b32 (by assumption))) rfl rfl rfl (fun _ h => (h.sub (by first | exact S0 | exact S1 | repeat (first | exact S1 | exact S0 | apply S2 | apply S3)))) H19 ?_
    clear H19; intro a20 H20
    refine hgo 2 rfl (by kernel_rfl) ?_
    refine st_callg rfl z_call75 rfl rfl rfl rfl H20 (rtext _ (by first | exact wf.round.2 | exact wf.who.2 | exact wf.amount.2 | exact wf.salt.2) _) ?_
    clear H20; intro a21 wx21 H21
    refine hfin (H21.sep.sub (by first | exact S0 | exact S1 | repeat (first | exact S1 | exact S0 | apply S2 | apply S3))) ?_
    refine hgo 5 rfl (by kernel_rfl) ?_
    refine st_callg rfl z_call75 rfl rfl rfl rfl H21 (rtext _ (by first | exact wf.round.2 | exact wf.who.2 | exact wf.amount.2 | exact wf.salt.2) _) ?_
    clear H21; intro a22 wx22 H22
    refine hfin (H22.sep.sub (by first | exact S0 | exact S1 | repeat (first | exact S1 | exact S0 | apply S2 | apply S3))) ?_
    refine hgo 8 rfl (by kernel_rfl) ?_
    refine st_callg rfl z_call75 rfl rfl rfl rfl H22 (rtext _ (by first | exact wf.round.2 | exact wf.who.2 | exact wf.amount.2 | exact wf.salt.2) _) ?_
    clear H22; intro a23 wx23 H23
    refine hfin (H23.sep.sub (by first | exact S0 | exact S1 | repeat (first | exact S1 | exact S0 | apply S2 | apply S3))) ?_
    refine hgo 11 rfl (by kernel_rfl) ?_
    refine st_callg rfl z_call75 rfl rfl rfl rfl H23 (rtext _ (by first | exact wf.round.2 | exact wf.who.2 | exact wf.amount.2 | exact wf.salt.2) _) ?_
    clear H23; intro a24 wx24 H24
    refine hfin (H24.sep.sub (by first | exact S0 | exact S1 | repeat (first | exact S1 | exact S0 | apply S2 | apply S3))) ?_
    refine hgo 14 rfl (by kernel_rfl) ?_
    refine st_callg rfl z_call71 rfl rfl rfl rfl H24 (rbytes b.tag wf.tag _) ?_
    clear H24; intro a25 wx25 H25
    refine hfin (H25.sep.sub (by first | exact S0 | exact S1 | repeat (first | exact S1 | exact S0 | apply S2 | apply S3))) ?_
    refine hgo 15 rfl (by kernel_rfl) ?_
    refine st_buildSlice1 (xs := [.tmp 9, .tmp 12, .tmp 15, .tmp 18, .tmp 21]) rfl Tryd.underlying122 z_size9 z_zero9 rfl rfl rfl rfl rfl rfl rfl rfl rfl H25 ?_
    clear H25; intro b26 a26 wx26 H26
    refine hfin (H26.sep.sub (by first | exact S0 | exact S1 | repeat (first | exact S1 | exact S0 | apply S2 | apply S3))) ?_
    refine hgo 16 rfl (by kernel_rfl) ?_
    refine st_callg rfl z_call74 rfl rfl rfl rfl H26 (rlist [Note.num b.round, Note.num b.who, Note.num b.amount, Note.num b.salt, b.tag] _ _ _ rfl (Rd.ofSep (rd_blkA (by repeat (first | exact Mh | apply Mt))) H26.sep) (by simp)) ?_
    clear H26; intro a27 wx27 H27
    refine hfin (H27.sep.sub (by first | exact S0 | exact S1 | repeat (first | exact S1 | exact S0 | apply S2 | apply S3))) ?_
    refine htake 17 rfl (by kernel_rfl) (y_extract rfl rfl rfl) rfl rfl rfl (fun _ h => (h.sub (by first | exact S0 | exact S1 | repeat (first | exact S1 | exact S0 | apply S2 | apply S3)))) H27 ?_
    clear H27; intro a28 H28
    refine htake 18 rfl (by kernel_rfl) (y_extract rfl rfl rfl) rfl rfl rfl (fun _ h => (h.sub (by first | exact S0 | exact S1 | repeat (first | exact S1 | exact S0 | apply S2 | apply S3)))) H28 ?_
    clear H28; intro a29 H29
    refine htake 19 rfl (by kernel_rfl) (y_assign rfl rfl) rfl rfl rfl (fun _ h => (h.sub (by first | exact S0 | exact S1 | repeat (first | exact S1 | exact S0 | apply S2 | apply S3)))) H29 ?_
    clear H29; intro a30 H30
    refine htake 20 rfl (by kernel_rfl) (y_assign rfl rfl) rfl rfl rfl (fun _ h => (h.sub (by first | exact S0 | exact S1 | repeat (first | exact S1 | exact S0 | apply S2 | apply S3)))) H30 ?_
    clear H30; intro a31 H31
    refine hdone (by kernel_rfl) ?_
    refine then_n ?_
    refine wp_ret ?_
    -- return 2
    refine ret2 rfl H31 rfl rfl ?_
    exact ⟨_, [], rfl, ⟨by rw [Note.writeBid, hk]; rfl, rfl⟩, H31.sep.sub (List.nil_sublist _)⟩
set_option maxRecDepth 100000 in
set_option maxHeartbeats 1000000 in
theorem rsign (b : Note.Bid) (wf : Note.Bid.Wf b) (w : World) : Calls Tryd.prog 50 #[.agg (Note.Bid.cells b).toArray] w (Gives (.tuple #[.agg (Note.Bid.cells (Note.signBid b).1).toArray, .int .i64 (Note.signBid b).2]) [] w) := by
  have lz32 : (List.replicate 32 (0 : UInt8)).length = 32 := List.length_replicate
  have lz0 := wf.tag
  refine enterL (args := [.agg (Note.Bid.cells b).toArray]) Tryd.func50 rfl rfl (l := []) (Sep.refl _) ?_
  intro a0 H0
  refine wp_seq ?_
  refine reg ?_
  refine st_box rfl rfl (agg_cells _) rfl rfl rfl H0 ?_
  clear H0; intro b1 a1 wx1 H1
  refine st_alloc rfl z_zeroN30 rfl rfl rfl H1 ?_
  clear H1; intro b2 a2 wx2 H2
  refine plain (y_assign rfl rfl) rfl rfl rfl H2 ?_
  clear H2; intro a3 H3
  refine fin ?_
  refine then_n ?_
  refine wp_seq ?_
  refine wp_seq ?_
  refine reg ?_
  refine plain (y_loadAB rfl z_agg30 z_size30 rfl (by repeat (first | exact Mh | apply Mt)) (q_ld_c4b32_0_36 (by first | assumption | exact Seal.tag_len _ _ _)) (q_len_c4b32 (by first | assumption | exact Seal.tag_len _ _ _))) rfl rfl rfl H3 ?_
  clear H3; intro a4 H4
  refine st_callg rfl z_call73 rfl rfl rfl rfl H4 (rbid b wf _) ?_
  clear H4; intro a5 wx5 H5
  refine plain ((by first | exact y_not_d rfl rfl | exact y_not rfl rfl)) rfl rfl rfl H5 ?_
  clear H5; intro a6 H6
  refine fin ?_
  refine then_n ?_
  refine cnd H6 rfl (fun hc7 => ?_) (fun hc7 => ?_) -- cond 1
  · skip
    try simp only [decide_eq_true_eq, decide_eq_false_iff_not, Bool.not_eq_true', Bool.not_eq_false', Bool.and_eq_true, Bool.not_eq_true, Bool.not_eq_false] at hc7
    have hk := hc7
    refine wp_seq ?_
    refine reg ?_
    refine plain (y_build rfl z_zeroN30 z_places30 rfl lay_n) rfl rfl rfl H6 ?_
    clear H6; intro a8 H8
    refine st_storeN rfl z_size30 rfl rfl (agg_cells _) (by repeat (first | exact Uh | apply Ut)) (q_one_c4b32 rfl rfl rfl rfl) (q_len_c4b32 (by first | assumption | exact Seal.tag_len _ _ _)) (q_len_c4b32 (by first | assumption | exact Seal.tag_len _ _ _)) (q_spl_c4b32_0_c4b32 (by first | assumption | exact Seal.tag_len _ _ _) (by first | assumption | exact Seal.tag_len _ _ _)) (by decide) rfl rfl H8 ?_
    clear H8; intro wx9 H9
    refine plain (y_assign rfl rfl) rfl rfl rfl H9 ?_
    clear H9; intro a10 H10
    refine fin ?_
    refine then_n ?_
    refine wp_ret ?_
    refine then_r ?_
    -- return 1
    refine retct rfl H10 rfl z_agg30 z_size30 (by repeat (first | exact Mh | apply Mt)) (q_len_c4b32 (by first | assumption | exact Seal.tag_len _ _ _)) rfl ?_
    refine ⟨_, [], rfl, ⟨?_, rfl⟩, H10.sep.sub (List.nil_sublist _)⟩
    rw [Note.signBid, hk]
    rfl
  · skip
    try simp only [decide_eq_true_eq, decide_eq_false_iff_not, Bool.not_eq_true', Bool.not_eq_false', Bool.and_eq_true, Bool.not_eq_true, Bool.not_eq_false] at hc7
    have hk := hc7
    refine wp_skip ?_
    refine then_n ?_
    refine wp_seq ?_
    refine hreg _ (fun _ h => h) (by kernel_rfl) H6 ?_
    clear H6; intro wx11 H11
    refine htake 0 rfl (by kernel_rfl) (y_fieldB rfl z_field30_0 rfl (by first | (simp only [Nat.zero_add, Nat.add_zero, Nat.reduceAdd]; rfl) | rfl)) rfl rfl rfl (fun _ h => (h.sub (by first | exact S0 | exact S1 | repeat (first | exact S1 | exact S0 | apply S2 | apply S3)))) H11 ?_
    clear H11; intro a12 H12
    refine htake 1 rfl (by kernel_rfl) (y_loadB rfl z_agg3 rfl (by repeat (first | exact Mh | apply Mt)) q_ix_c4b32_0) rfl rfl rfl (fun _ h => (h.sub (by first | exact S0 | exact S1 | repeat (first | exact S1 | exact S0 | apply S2 | apply S3)))) H12 ?_
    clear H12; intro a13 H13
    refine htake 3 rfl (by kernel_rfl) (y_fieldB rfl z_field30_1 rfl (by first | (simp only [Nat.zero_add, Nat.add_zero, Nat.reduceAdd]; rfl) | rfl)) rfl rfl rfl (fun _ h => (h.sub (by first | exact S0 | exact S1 | repeat (first | exact S1 | exact S0 | apply S2 | apply S3)))) H13 ?_
    clear H13; intro a14 H14
    refine htake 4 rfl (by kernel_rfl) (y_loadB rfl z_agg3 rfl (by repeat (first | exact Mh | apply Mt)) q_ix_c4b32_1) rfl rfl rfl (fun _ h => (h.sub (by first | exact S0 | exact S1 | repeat (first | exact S1 | exact S0 | apply S2 | apply S3)))) H14 ?_
    clear H14; intro a15 H15
    refine htake 6 rfl (by kernel_rfl) (y_fieldB rfl z_field30_2 rfl (by first | (simp only [Nat.zero_add, Nat.add_zero, Nat.reduceAdd]; rfl) | rfl)) rfl rfl rfl (fun _ h => (h.sub (by first | exact S0 | exact S1 | repeat (first | exact S1 | exact S0 | apply S2 | apply S3)))) H15 ?_
    clear H15; intro a16 H16
    refine htake 7 rfl (by kernel_rfl) (y_loadB rfl z_agg3 rfl (by repeat (first | exact Mh | apply Mt)) q_ix_c4b32_2) rfl rfl rfl (fun _ h => (h.sub (by first | exact S0 | exact S1 | repeat (first | exact S1 | exact S0 | apply S2 | apply S3)))) H16 ?_
    clear H16; intro a17 H17
    refine htake 9 rfl (by kernel_rfl) (y_fieldB rfl z_field30_3 rfl (by first | (simp only [Nat.zero_add, Nat.add_zero, Nat.reduceAdd]; rfl) | rfl)) rfl rfl rfl (fun _ h => (h.sub (by first | exact S0 | exact S1 | repeat (first | exact S1 | exact S0 | apply S2 | apply S3)))) H17 ?_
    clear H17; intro a18 H18
    refine htake 10 rfl (by kernel_rfl) (y_loadB rfl z_agg3 rfl (by repeat (first | exact Mh | apply Mt)) q_ix_c4b32_3) rfl rfl rfl (fun _ h => (h.sub (by first | exact S0 | exact S1 | repeat (first | exact S1 | exact S0 | apply S2 | apply S3)))) H18 ?_
    clear H18; intro a19 H19
    refine hgo 2 rfl (by kernel_rfl) ?_
    refine st_callg rfl z_call75 rfl rfl rfl rfl H19 (rtext _ (by first | exact wf.round.2 | exact wf.who.2 | exact wf.amount.2 | exact wf.salt.2) _) ?_
    clear H19; intro a20 wx20 H20
    refine hfin (H20.sep.sub (by first | exact S0 | exact S1 | repeat (first | exact S1 | exact S0 | apply S2 | apply S3))) ?_
    refine hgo 5 rfl (by kernel_rfl) ?_
    refine st_callg rfl z_call75 rfl rfl rfl rfl H20 (rtext _ (by first | exact wf.round.2 | exact wf.who.2 | exact wf.amount.2 | exact wf.salt.2) _) ?_
    clear H20; intro a21 wx21 H21
    refine hfin (H21.sep.sub (by first | exact S0 | exact S1 | repeat (first | exact S1 | exact S0 | apply S2 | apply S3))) ?_
    refine hgo 8 rfl (by kernel_rfl) ?_
    refine st_callg rfl z_call75 rfl rfl rfl rfl H21 (rtext _ (by first | exact wf.round.2 | exact wf.who.2 | exact wf.amount.2 | exact wf.salt.2) _) ?_
    clear H21; intro a22 wx22 H22
    refine hfin (H22.sep.sub (by first | exact S0 | exact S1 | repeat (first | exact S1 | exact S0 | apply S2 | apply S3))) ?_
    refine hgo 11 rfl (by kernel_rfl) ?_
    refine st_callg rfl z_call75 rfl rfl rfl rfl H22 (rtext _ (by first | exact wf.round.2 | exact wf.who.2 | exact wf.amount.2 | exact wf.salt.2) _) ?_
    clear H22; intro a23 wx23 H23
    refine hfin (H23.sep.sub (by first | exact S0 | exact S1 | repeat (first | exact S1 | exact S0 | apply S2 | apply S3))) ?_
    refine hgo 12 rfl (by kernel_rfl) ?_
    refine st_buildSlice1 (xs := [.tmp 15, .tmp 18, .tmp 21, .tmp 24]) rfl Tryd.underlying122 z_size9 z_zero9 rfl rfl rfl rfl rfl rfl rfl rfl rfl H23 ?_
    clear H23; intro b24 a24 wx24 H24
    refine hfin (H24.sep.sub (by first | exact S0 | exact S1 | repeat (first | exact S1 | exact S0 | apply S2 | apply S3))) ?_
    refine hgo 13 rfl (by kernel_rfl) ?_
    refine st_callg rfl z_call74 rfl rfl rfl rfl H24 (rlist [Note.num b.round, Note.num b.who, Note.num b.amount, Note.num b.salt] _ _ _ rfl (Rd.ofSep (rd_blkA (by repeat (first | exact Mh | apply Mt))) H24.sep) (by simp)) ?_
    clear H24; intro a25 wx25 H25
    refine hfin (H25.sep.sub (by first | exact S0 | exact S1 | repeat (first | exact S1 | exact S0 | apply S2 | apply S3))) ?_
    refine htake 14 rfl (by kernel_rfl) (y_move rfl rfl) rfl rfl rfl (fun _ h => (h.sub (by first | exact S0 | exact S1 | repeat (first | exact S1 | exact S0 | apply S2 | apply S3)))) H25 ?_
    clear H25; intro a26 H26
    refine htake 15 rfl (by kernel_rfl) (y_extract rfl rfl rfl) rfl rfl rfl (fun _ h => (h.sub (by first | exact S0 | exact S1 | repeat (first | exact S1 | exact S0 | apply S2 | apply S3)))) H26 ?_
    clear H26; intro a27 H27
    refine htake 16 rfl (by kernel_rfl) (y_extract rfl rfl rfl) rfl rfl rfl (fun _ h => (h.sub (by first | exact S0 | exact S1 | repeat (first | exact S1 | exact S0 | apply S2 | apply S3)))) H27 ?_
    clear H27; intro a28 H28
    refine htake 17 rfl (by kernel_rfl) (y_assign rfl rfl) rfl rfl rfl (fun _ h => (h.sub (by first | exact S0 | exact S1 | repeat (first | exact S1 | exact S0 | apply S2 | apply S3)))) H28 ?_
    clear H28; intro a29 H29
    refine htake 18 rfl (by kernel_rfl) (y_assign rfl rfl) rfl rfl rfl (fun _ h => (h.sub (by first | exact S0 | exact S1 | repeat (first | exact S1 | exact S0 | apply S2 | apply S3)))) H29 ?_
    clear H29; intro a30 H30
    refine hdone (by kernel_rfl) ?_
    refine then_n ?_
    refine wp_seq ?_
    refine reg ?_
    refine plain (y_fieldB rfl z_field30_1 rfl (by first | (simp only [Nat.zero_add, Nat.add_zero, Nat.reduceAdd]; rfl) | rfl)) rfl rfl rfl H30 ?_
    clear H30; intro a31 H31
    refine plain (y_loadB rfl z_agg3 rfl (by repeat (first | exact Mh | apply Mt)) q_ix_c4b32_1) rfl rfl rfl H31 ?_
    clear H31; intro a32 H32
    refine plain (y_move rfl rfl) rfl rfl rfl H32 ?_
    clear H32; intro a33 H33
    refine st_callg rfl z_call76 rfl rfl rfl rfl H33 (rtag b.who 3 wf.who (by omega) b.said (by have := Oct.list_len (l := [Note.num b.round, Note.num b.who, Note.num b.amount, Note.num b.salt]); unfold Note.Bid.said; omega) _) ?_
    clear H33; intro a34 wx34 H34
    refine plain (y_move rfl rfl) rfl rfl rfl H34 ?_
    clear H34; intro a35 H35
    refine plain (y_extract rfl rfl rfl) rfl rfl rfl H35 ?_
    clear H35; intro a36 H36
    refine plain (y_extract rfl rfl rfl) rfl rfl rfl H36 ?_
    clear H36; intro a37 H37
    refine st_alloc rfl z_zeroN28 rfl rfl rfl H37 ?_
    clear H37; intro b38 a38 wx38 H38
    refine st_storeN rfl z_size28 rfl rfl (agg_cells _) (by repeat (first | exact Uh | apply Ut)) q_one_b32 (q_len_b32 (by first | assumption | exact Seal.tag_len _ _ _)) (q_len_b32 (by first | assumption | exact Seal.tag_len _ _ _)) (q_spl_b32_0_b32 (by first | assumption | exact Seal.tag_len _ _ _) (by first | assumption | exact Seal.tag_len _ _ _)) (by decide) rfl rfl H38 ?_
    clear H38; intro wx39 H39
    refine plain (y_assign rfl rfl) rfl rfl rfl H39 ?_
    clear H39; intro a40 H40
    refine fin ?_
    refine then_n ?_
    refine wp_seq ?_
    refine reg ?_
    refine plain (y_loadAB rfl z_agg28 z_size28 rfl (by repeat (first | exact Mh | apply Mt)) (q_ld_b32_0_32 (by first | assumption | exact Seal.tag_len _ _ _)) (q_len_b32 (by first | assumption | exact Seal.tag_len _ _ _))) rfl rfl rfl H40 ?_
    clear H40; intro a41 H41
    refine plain (y_fieldB rfl z_field30_4 rfl (by first | (simp only [Nat.zero_add, Nat.add_zero, Nat.reduceAdd]; rfl) | rfl)) rfl rfl rfl H41 ?_
    clear H41; intro a42 H42
    refine st_storeN rfl z_size28 rfl rfl (agg_cells _) (by repeat (first | exact Uh | apply Ut)) q_one_b32 (q_len_b32 (by first | assumption | exact Seal.tag_len _ _ _)) (q_len_c4b32 (by first | assumption | exact Seal.tag_len _ _ _)) (q_spl_c4b32_4_b32 (by first | assumption | exact Seal.tag_len _ _ _) (by first | assumption | exact Seal.tag_len _ _ _)) (by decide) rfl rfl H42 ?_
    clear H42; intro wx43 H43
    refine fin ?_
    refine then_n ?_
    refine wp_seq ?_
    refine reg ?_
    refine plain (y_loadAB rfl z_agg30 z_size30 rfl (by repeat (first | exact Mh | apply Mt)) (q_ld_c4b32_0_36 (by first | assumption | exact Seal.tag_len _ _ _)) (q_len_c4b32 (by first | assumption | exact Seal.tag_len _ _ _))) rfl rfl rfl H43 ?_
    clear H43; intro a44 H44
    refine st_storeN rfl z_size30 rfl rfl (agg_cells _) (by repeat (first | exact Uh | apply Ut)) (q_one_c4b32 rfl rfl rfl rfl) (q_len_c4b32 (by first | assumption | exact Seal.tag_len _ _ _)) (q_len_c4b32 (by first | assumption | exact Seal.tag_len _ _ _)) (q_spl_c4b32_0_c4b32 (by first | assumption | exact Seal.tag_len _ _ _) (by first | assumption | exact Seal.tag_len _ _ _)) (by decide) rfl rfl H44 ?_
    clear H44; intro wx45 H45
    refine plain (y_assign rfl rfl) rfl rfl rfl H45 ?_
    clear H45; intro a46 H46
    refine fin ?_
    refine then_n ?_
    refine wp_ret ?_
    -- return 2
    refine retct rfl H46 rfl z_agg30 z_size30 (by repeat (first | exact Mh | apply Mt)) (q_len_c4b32 (by first | assumption | exact Seal.tag_len _ _ _)) rfl ?_
    refine ⟨_, [], rfl, ⟨?_, rfl⟩, H46.sep.sub (List.nil_sublist _)⟩
    rw [Note.signBid, hk]
    rfl
set_option maxRecDepth 100000 in
set_option maxHeartbeats 1000000 in
theorem rcheck (b : Note.Bid) (wf : Note.Bid.Wf b) (w : World) : Calls Tryd.prog 51 #[.agg (Note.Bid.cells b).toArray] w (Gives (.int .i64 (Note.checkBid b)) [] w) := by
  have lz32 : (List.replicate 32 (0 : UInt8)).length = 32 := List.length_replicate
  have lz0 := Note.sign_len b
  have lz1 := wf.tag
  refine enterL (args := [.agg (Note.Bid.cells b).toArray]) Tryd.func51 rfl rfl (l := []) (Sep.refl _) ?_
  intro a0 H0
  refine wp_seq ?_
  refine reg ?_
  refine st_box rfl rfl (agg_cells _) rfl rfl rfl H0 ?_
  clear H0; intro b1 a1 wx1 H1
  refine plain (y_assign rfl rfl) rfl rfl rfl H1 ?_
  clear H1; intro a2 H2
  refine fin ?_
  refine then_n ?_
  refine wp_seq ?_
  refine reg ?_
  refine plain (y_loadAB rfl z_agg30 z_size30 rfl (by repeat (first | exact Mh | apply Mt)) (q_ld_c4b32_0_36 (by assumption)) (q_len_c4b32 (by assumption))) rfl rfl rfl H2 ?_
  clear H2; intro a3 H3
  refine st_callg rfl z_call50 rfl rfl rfl rfl H3 (rsign b wf _) ?_
  clear H3; intro a4 wx4 H4
  refine plain (y_move rfl rfl) rfl rfl rfl H4 ?_
  clear H4; intro a5 H5
  refine plain (y_extract rfl rfl rfl) rfl rfl rfl H5 ?_
  clear H5; intro a6 H6
  refine plain (y_extract rfl rfl rfl) rfl rfl rfl H6 ?_
  clear H6; intro a7 H7
  refine st_alloc rfl z_zeroN30 rfl rfl rfl H7 ?_
  clear H7; intro b8 a8 wx8 H8
  refine st_storeN rfl z_size30 rfl rfl (agg_cells _) (by repeat (first | exact Uh | apply Ut)) (q_one_c4b32 rfl rfl rfl rfl) (q_len_c4b32 (by assumption)) (q_len_c4b32 (by assumption)) (q_spl_c4b32_0_c4b32 (by assumption) (by assumption)) (by decide) rfl rfl H8 ?_
  clear H8; intro wx9 H9
  refine plain (y_assign rfl rfl) rfl rfl rfl H9 ?_
  clear H9; intro a10 H10
  refine fin ?_
  refine then_n ?_
  refine wp_seq ?_
  refine wp_seq ?_
  refine reg ?_
  refine plain (y_move rfl rfl) rfl rfl rfl H10 ?_
  clear H10; intro a11 H11
  refine plain (y_neq rfl rfl rfl) rfl rfl rfl H11 ?_
  clear H11; intro a12 H12
  refine fin ?_
  refine then_n ?_
  refine cnd H12 rfl (fun hc13 => ?_) (fun hc13 => ?_) -- cond 1
  · skip
    try simp only [decide_eq_true_eq, decide_eq_false_iff_not, Bool.not_eq_true', Bool.not_eq_false', Bool.and_eq_true, Bool.not_eq_true, Bool.not_eq_false] at hc13
    refine wp_seq ?_
    refine reg ?_
    refine plain (y_move rfl rfl) rfl rfl rfl H12 ?_
    clear H12; intro a14 H14
    refine plain (y_assign rfl rfl) rfl rfl rfl H14 ?_
    clear H14; intro a15 H15
    refine fin ?_
    refine then_n ?_
    refine wp_ret ?_
    refine then_r ?_
    -- return 1
    refine ret1 rfl H15 rfl ?_
    exact ⟨_, [], rfl, ⟨by rw [Note.check_err (by assumption)], rfl⟩, H15.sep.sub (List.nil_sublist _)⟩
  · skip
    try simp only [decide_eq_true_eq, decide_eq_false_iff_not, Bool.not_eq_true', Bool.not_eq_false', Bool.and_eq_true, Bool.not_eq_true, Bool.not_eq_false] at hc13
    refine wp_skip ?_
    refine then_n ?_
    refine wp_seq ?_
    refine wp_seq ?_
    refine reg ?_
    refine plain (y_loadAB rfl z_agg30 z_size30 rfl (by repeat (first | exact Mh | apply Mt)) (q_ld_c4b32_0_36 (by assumption)) (q_len_c4b32 (by assumption))) rfl rfl rfl H12 ?_
    clear H12; intro a16 H16
    refine plain (y_loadAB rfl z_agg30 z_size30 rfl (by repeat (first | exact Mh | apply Mt)) (q_ld_c4b32_0_36 (by assumption)) (q_len_c4b32 (by assumption))) rfl rfl rfl H16 ?_
    clear H16; intro a17 H17
    refine plain (y_tneq rfl (by kernel_rfl) rfl rfl (eqr_Bid (Note.signBid b).1 b (Note.sign_len b) wf.tag)) rfl rfl rfl H17 ?_
    clear H17; intro a18 H18
    refine fin ?_
    refine then_n ?_
    refine cnd H18 rfl (fun hc19 => ?_) (fun hc19 => ?_) -- cond 2
    · skip
      try simp only [decide_eq_true_eq, decide_eq_false_iff_not, Bool.not_eq_true', Bool.not_eq_false', Bool.and_eq_true, Bool.not_eq_true, Bool.not_eq_false] at hc19
      refine wp_seq ?_
      refine reg ?_
      refine plain (y_assign rfl rfl) rfl rfl rfl H18 ?_
      clear H18; intro a20 H20
      refine fin ?_
      refine then_n ?_
      refine wp_ret ?_
      refine then_r ?_
      -- return 2
      refine ret1 rfl H20 rfl ?_
      exact ⟨_, [], rfl, ⟨by rw [Note.check_bad (by omega) (by assumption)], rfl⟩, H20.sep.sub (List.nil_sublist _)⟩
    · skip
      try simp only [decide_eq_true_eq, decide_eq_false_iff_not, Bool.not_eq_true', Bool.not_eq_false', Bool.and_eq_true, Bool.not_eq_true, Bool.not_eq_false] at hc19
      refine wp_skip ?_
      refine then_n ?_
      refine wp_seq ?_
      refine reg ?_
      refine plain (y_assign rfl rfl) rfl rfl rfl H18 ?_
      clear H18; intro a21 H21
      refine fin ?_
      refine then_n ?_
      refine wp_ret ?_
      -- return 3
      refine ret1 rfl H21 rfl ?_
      exact ⟨_, [], rfl, ⟨by rw [Note.check_good (by omega) (fun h => h (by assumption))], rfl⟩, H21.sep.sub (List.nil_sublist _)⟩

end Go.Proofs.YtaeahloenahelaaDoor.A_RefB

set_option linter.unusedVariables false
set_option linter.unusedSimpArgs false
namespace Go.Proofs.YtaeahloenahelaaDoor.A_Cnt
open Go.Sx Go.RowKit Go.Proofs.YtaeahloenahelaaDoor.A_Block Go.Proofs.YtaeahloenahelaaDoor.A_Sum Go.Proofs.YtaeahloenahelaaDoor.A_Ref Go.Proofs.YtaeahloenahelaaDoor.A_RSum Go.Proofs.YtaeahloenahelaaDoor.A_Leaf Go.Proofs.YtaeahloenahelaaDoor.A_Num Go.Proofs.YtaeahloenahelaaDoor.A_Key Go.Proofs.YtaeahloenahelaaDoor.A_Ref Go.Proofs.YtaeahloenahelaaDoor.A_RSum Go.Proofs.YtaeahloenahelaaDoor.A_Tag Go.Proofs.YtaeahloenahelaaDoor.A_Lay Go.Proofs.YtaeahloenahelaaDoor.A_Eq Go.Proofs.YtaeahloenahelaaDoor.A_Ref0 Go.Proofs.YtaeahloenahelaaDoor.A_Sign Go.Proofs.YtaeahloenahelaaDoor.A_RefB

theorem z_zeroN112 : zeroL Tryd.prog 112 = some ((.int .i64 0 :: (.int .i64 0 :: (.int .i64 0 :: (.int .i64 0 :: (.int .i64 0 :: (.int .i64 0 :: (.int .i64 0 :: (.int .i64 0 :: (.int .i64 0 :: (.int .i64 0 :: (.int .i64 0 :: (.int .i64 0 :: (.int .i64 0 :: (.int .i64 0 :: (.int .i64 0 :: (.int .i64 0 :: (.int .i64 0 :: (.int .i64 0 :: (.int .i64 0 :: (.int .i64 0 :: (.int .i64 0 :: (.int .i64 0 :: (.int .i64 0 :: (.int .i64 0 :: (.int .i64 0 :: (.int .i64 0 :: (.int .i64 0 :: (.int .i64 0 :: (.int .i64 0 :: (.int .i64 0 :: (.int .i64 0 :: (.int .i64 0 :: (.int .i64 0 :: (.int .i64 0 :: (.int .i64 0 :: (.int .i64 0 :: (.int .i64 0 :: (.int .i64 0 :: (.int .i64 0 :: (.int .i64 0 :: (.int .i64 0 :: (.int .i64 0 :: (.int .i64 0 :: (.int .i64 0 :: (.int .i64 0 :: (.int .i64 0 :: (.int .i64 0 :: (.int .i64 0 :: (.int .i64 0 :: (.int .i64 0 :: (.int .i64 0 :: (.int .i64 0 :: (.int .i64 0 :: (.int .i64 0 :: (.int .i64 0 :: (.int .i64 0 :: (.int .i64 0 :: (.int .i64 0 :: (.int .i64 0 :: (.int .i64 0 :: (.int .i64 0 :: (.int .i64 0 :: (.int .i64 0 :: (.int .i64 0 :: []))))))))))))))))))))))))))))))))))))))))))))))))))))))))))))))))) := by kernel_rfl
theorem z_size30 : sizeB Tryd.prog 30 = some 36 := by kernel_rfl
theorem z_agg30 : aggB Tryd.prog 30 = some true := by kernel_rfl
theorem z_zeroN30 : zeroL Tryd.prog 30 = some ((.int .i64 0 :: (.int .i64 0 :: (.int .i64 0 :: (.int .i64 0 :: (List.replicate 32 (0 : UInt8)).map u8))))) := by kernel_rfl
theorem q_one_c4b32 {a0 a1 a2 a3 : Value} {t4 : List UInt8} (o0 : a0.oneCell' = true) (o1 : a1.oneCell' = true) (o2 : a2.oneCell' = true) (o3 : a3.oneCell' = true) : (a0 :: a1 :: a2 :: a3 :: t4.map u8).all (·.oneCell') = true := (one_c o0 (one_c o1 (one_c o2 (one_c o3 (one_u8 _)))))
theorem q_len_c4b32 {a0 a1 a2 a3 : Value} {t4 : List UInt8} (h4 : t4.length = 32) : (a0 :: a1 :: a2 :: a3 :: t4.map u8).length = 36 := (len_c (n := 35) (len_c (n := 34) (len_c (n := 33) (len_c (n := 32) (len_e (k := 32) h4)))))
theorem q_spl_c4b32_0_c4b32 {a0 a1 a2 a3 : Value} {t4 : List UInt8} {b0 b1 b2 b3 : Value} {s4 : List UInt8} (h4 : t4.length = 32) (g4 : s4.length = 32) : spl (a0 :: a1 :: a2 :: a3 :: t4.map u8) 0 (b0 :: b1 :: b2 :: b3 :: s4.map u8) = b0 :: b1 :: b2 :: b3 :: s4.map u8 := (spl_a (z := 36) (len_c (n := 35) (len_c (n := 34) (len_c (n := 33) (len_c (n := 32) (len_e (k := 32) h4))))) (len_c (n := 35) (len_c (n := 34) (len_c (n := 33) (len_c (n := 32) (len_e (k := 32) g4))))))
theorem q_ld_c4b32_0_36 {a0 a1 a2 a3 : Value} {t4 : List UInt8} (h4 : t4.length = 32) : ((a0 :: a1 :: a2 :: a3 :: t4.map u8).drop 0).take 36 = a0 :: a1 :: a2 :: a3 :: t4.map u8 := (ld_a (len_c (n := 35) (len_c (n := 34) (len_c (n := 33) (len_c (n := 32) (len_e (k := 32) h4))))))
theorem z_call63 : callB Tryd.prog 63 = true := by kernel_rfl
theorem z_field30_0 : fieldB Tryd.prog 30 0 = some 0 := by kernel_rfl
theorem z_agg3 : aggB Tryd.prog 3 = some false := by kernel_rfl
theorem q_ix_c4b32_0 {a0 a1 a2 a3 : Value} {t4 : List UInt8} : (a0 :: a1 :: a2 :: a3 :: t4.map u8)[0]? = some a0 := ix_0
theorem z_field30_2 : fieldB Tryd.prog 30 2 = some 2 := by kernel_rfl
theorem q_ix_c4b32_2 {a0 a1 a2 a3 : Value} {t4 : List UInt8} : (a0 :: a1 :: a2 :: a3 :: t4.map u8)[2]? = some a2 := (ix_c (o := 1) (ix_c (o := 0) ix_0))
theorem z_field30_1 : fieldB Tryd.prog 30 1 = some 1 := by kernel_rfl
theorem q_ix_c4b32_1 {a0 a1 a2 a3 : Value} {t4 : List UInt8} : (a0 :: a1 :: a2 :: a3 :: t4.map u8)[1]? = some a1 := (ix_c (o := 0) ix_0)
theorem z_size3 : sizeB Tryd.prog 3 = some 1 := by kernel_rfl
theorem z_zero30 : zeroL Tryd.prog 30 = some ([.int .i64 0, .int .i64 0, .int .i64 0, .int .i64 0, .int .u8 0, .int .u8 0, .int .u8 0, .int .u8 0, .int .u8 0, .int .u8 0, .int .u8 0, .int .u8 0, .int .u8 0, .int .u8 0, .int .u8 0, .int .u8 0, .int .u8 0, .int .u8 0, .int .u8 0, .int .u8 0, .int .u8 0, .int .u8 0, .int .u8 0, .int .u8 0, .int .u8 0, .int .u8 0, .int .u8 0, .int .u8 0, .int .u8 0, .int .u8 0, .int .u8 0, .int .u8 0, .int .u8 0, .int .u8 0, .int .u8 0, .int .u8 0]) := by kernel_rfl
theorem z_slice22 : sliceB Tryd.prog 22 = some (30, 36, 64) := by kernel_rfl
theorem z_notint22 : notIntB Tryd.prog 22 = true := by kernel_rfl

set_option maxRecDepth 100000 in
set_option maxHeartbeats 2000000 in
theorem acount (l : List Note.Bid) (fs : List Int) (r fl : Int) (A B : Option Addr) (m n c e : Nat) (hm : m = l.length) (hn : n = fs.length) (hl : l.length ≤ 1000) (hfl : fs.length ≤ 9223372036854775807) {w : World} (hw : ∀ x ∈ l, Note.Bid.Wf x) (hA : Rd w A (Auction.bdc l)) (hB : Rd w B (fs.map i64)) (hG : Glob 0 Sha.K w) : Calls Tryd.prog 45 #[.slice A m c, .slice B n e, .int .i64 r, .int .i64 fl] w (Post [] w (fun u l' => l' = [It.row 30 36 u (Auction.counts l fs r fl).length (Auction.bdc (Auction.counts l fs r fl))])) := by
  subst hm
  subst hn
  have lz32 : (List.replicate 32 (0 : UInt8)).length = 32 := List.length_replicate
  refine enterL (args := [.slice A l.length c, .slice B fs.length e, .int .i64 r, .int .i64 fl]) Tryd.func45 rfl rfl (l := []) (Sep.refl _) ?_
  intro a0 H0
  refine wp_seq ?_
  refine reg ?_
  refine plain (y_assign rfl rfl) rfl rfl rfl H0 ?_
  clear H0; intro a1 H1
  refine fin ?_
  refine then_n ?_
  refine wp_seq ?_
  refine reg ?_
  refine plain (y_assign rfl rfl) rfl rfl rfl H1 ?_
  clear H1; intro a2 H2
  refine fin ?_
  refine then_n ?_
  refine wp_seq ?_
  refine reg ?_
  refine st_alloc rfl z_zeroN112 rfl rfl rfl H2 ?_
  clear H2; intro b3 a3 wx3 H3
  refine fin ?_
  refine then_n ?_
  refine wp_seq ?_
  refine wp_seq ?_
  refine reg ?_
  refine plain (y_move rfl rfl) rfl rfl rfl H3 ?_
  clear H3; intro a4 H4
  refine plain (y_len rfl Tryd.underlying22 rfl) rfl rfl rfl H4 ?_
  clear H4; intro a5 H5
  refine plain (y_move rfl rfl) rfl rfl rfl H5 ?_
  clear H5; intro a6 H6
  refine fin ?_
  refine then_n ?_
  refine wp_block ?_
  replace H6 := H6.nilRow 30 36
  refine loop (ι := Nat × Value) (fun x => [(0, .slice A l.length c), (1, .slice B fs.length e), (2, .int .i64 r), (3, .int .i64 fl), (9, x.2), (10, .pointer (some ⟨b3, 0, none⟩)), (13, .slice A l.length c), (14, .int .i64 (l.length : Int)), (15, .int .i64 (x.1 : Int))]) (fun x => [It.row 30 36 x.2 (Auction.counts (l.take x.1) fs r fl).length (Auction.bdc (Auction.counts (l.take x.1) fs r fl)), It.blk b3 112 (Auction.byc (Auction.counts (l.take x.1) fs r fl))]) (fun x => x.1 ≤ l.length) (fun x => l.length - x.1) ((0, .slice none 0 0)) (Nat.zero_le _) (H6.weak ⟨rfl, rfl, rfl, rfl, rfl, rfl, rfl, rfl, rfl, trivial⟩ rfl) ?_
  clear H6; intro x a7 wx7 hok7 H7
  obtain ⟨k, v⟩ := x
  dsimp only at hok7 H7
  have hok := hok7
  have hcw : ∀ x ∈ (Auction.counts (l.take k) fs r fl), Note.Bid.Wf x := Auction.counts_wf (fun x hx => hw x (List.mem_of_mem_take hx)) _ _ _
  have hcl := Auction.counts_len fs r fl (l.take k)
  rw [List.length_take] at hcl
  obtain ⟨Av, cv, hv, hRv, hmv⟩ := row_shape (v := v) H7.sep (by repeat (first | exact Mh | apply Mt))
  subst hv
  refine wp_seq ?_
  refine reg ?_
  refine plain (y_lss rfl rfl rfl) rfl rfl rfl H7 ?_
  clear H7; intro a8 H8
  refine fin ?_
  refine then_n ?_
  refine wp_seq ?_
  refine cnd H8 rfl (fun hc9 => ?_) (fun hc9 => ?_) -- cond 1
  · skip
    try simp only [decide_eq_true_eq, decide_eq_false_iff_not, Bool.not_eq_true', Bool.not_eq_false', Bool.and_eq_true, Bool.not_eq_true, Bool.not_eq_false] at hc9
    refine wp_skip ?_
    refine then_n ?_
    refine wp_seq ?_
    refine wp_block ?_
    refine wp_seq ?_
    have hkl : k < l.length := by omega
    have hwk := Auction.atD hw hkl
    have htg := hwk.tag
    refine reg ?_
    refine plain (y_ixR rfl Tryd.underlying22 z_size30 rfl rfl (by omega) (by omega) (rd_old hA (by simp)) (by first | (rw [Auction.bdc_len hw]; omega) | (rw [List.length_map]; omega))) rfl rfl rfl H8 ?_
    clear H8; intro a10 H10
    refine plain (y_loadAS rfl z_agg30 z_size30 rfl (rd_old hA (by simp)) (show _ = Note.Bid.cells (l.getD k Note.Bid.zero) from Auction.bdc_take hw k (by omega)) (Auction.bid_len htg) (by decide)) rfl rfl rfl H10 ?_
    clear H10; intro a11 H11
    refine st_alloc rfl z_zeroN30 rfl rfl rfl H11 ?_
    clear H11; intro b12 a12 wx12 H12
    refine st_storeN rfl z_size30 rfl rfl (agg_cells _) (by repeat (first | exact Uh | apply Ut)) (q_one_c4b32 rfl rfl rfl rfl) (q_len_c4b32 (by assumption)) (q_len_c4b32 (by assumption)) (q_spl_c4b32_0_c4b32 (by assumption) (by assumption)) (by decide) rfl rfl H12 ?_
    clear H12; intro wx13 H13
    refine fin ?_
    refine then_n ?_
    refine wp_seq ?_
    refine wp_seq ?_
    refine reg ?_
    refine plain (y_loadAB rfl z_agg30 z_size30 rfl (by repeat (first | exact Mh | apply Mt)) (q_ld_c4b32_0_36 (by assumption)) (q_len_c4b32 (by assumption))) rfl rfl rfl H13 ?_
    clear H13; intro a14 H14
    refine st_callg rfl z_call63 rfl rfl rfl rfl H14 (ncheck (l.getD k Note.Bid.zero) hwk (hG.frm H14.sep.frm (by simp))) ?_
    clear H14; intro a15 wx15 H15
    refine plain (y_neq rfl rfl rfl) rfl rfl rfl H15 ?_
    clear H15; intro a16 H16
    refine plain (y_move rfl rfl) rfl rfl rfl H16 ?_
    clear H16; intro a17 H17
    refine Sx.part (d := 22) H17 rfl (fun hg18 => ?_) (fun hg18 => ?_)
    · first
      | fail
      | skip
        clear H17; intro H19
        try simp only [decide_eq_true_eq, decide_eq_false_iff_not, Bool.not_eq_true', Bool.not_eq_false', Bool.and_eq_true, Bool.not_eq_true, Bool.not_eq_false] at hg18
        refine skip rfl rfl rfl H19 ?_
        clear H19; intro a20 H20
        refine skip rfl rfl rfl H20 ?_
        clear H20; intro a21 H21
        refine skip rfl rfl rfl H21 ?_
        clear H21; intro a22 H22
        refine skip rfl rfl rfl H22 ?_
        clear H22; intro a23 H23
        refine plain (y_pick_t rfl rfl rfl) rfl rfl rfl H23 ?_
        clear H23; intro a24 H24
        refine plain (y_move rfl rfl) rfl rfl rfl H24 ?_
        clear H24; intro a25 H25
        refine skip rfl rfl rfl H25 ?_
        clear H25; intro a26 H26
        refine skip rfl rfl rfl H26 ?_
        clear H26; intro a27 H27
        refine skip rfl rfl rfl H27 ?_
        clear H27; intro a28 H28
        refine skip rfl rfl rfl H28 ?_
        clear H28; intro a29 H29
        refine plain (y_pick_t rfl rfl rfl) rfl rfl rfl H29 ?_
        clear H29; intro a30 H30
        refine plain (y_move rfl rfl) rfl rfl rfl H30 ?_
        clear H30; intro a31 H31
        refine skip rfl rfl rfl H31 ?_
        clear H31; intro a32 H32
        refine skip rfl rfl rfl H32 ?_
        clear H32; intro a33 H33
        refine skip rfl rfl rfl H33 ?_
        clear H33; intro a34 H34
        refine skip rfl rfl rfl H34 ?_
        clear H34; intro a35 H35
        refine skip rfl rfl rfl H35 ?_
        clear H35; intro a36 H36
        refine plain (y_pick_t rfl rfl rfl) rfl rfl rfl H36 ?_
        clear H36; intro a37 H37
        refine fin ?_
        refine then_n ?_
        refine cnd_t H37 rfl ?_
        refine wp_exit ?_
        refine then_x ?_
        refine inb_hit ?_
        refine then_n ?_
        refine reg ?_
        refine plain (y_add rfl rfl rfl (by first | exact w64 (by omega) (by omega) | rfl)) rfl rfl rfl H37 ?_
        clear H37; intro a39 H39
        refine plain (y_move rfl rfl) rfl rfl rfl H39 ?_
        clear H39; intro a40 H40
        refine fin ?_
        refine then_n ?_
        first | (have hz := isYes; refine ⟨(k + 1, _), by dsimp only; omega, by dsimp only; omega, (H40.drop (List.Sublist.cons _ (List.Sublist.cons _ (List.Sublist.refl _)))).weak ⟨by first | rfl | exact fi rfl (by dsimp only; omega), by first | rfl | exact fi rfl (by dsimp only; omega), by first | rfl | exact fi rfl (by dsimp only; omega), by first | rfl | exact fi rfl (by dsimp only; omega), by first | rfl | exact fi rfl (by dsimp only; omega), by first | rfl | exact fi rfl (by dsimp only; omega), by first | rfl | exact fi rfl (by dsimp only; omega), by first | rfl | exact fi rfl (by dsimp only; omega), by first | rfl | exact fi rfl (by dsimp only; omega), trivial⟩ ?_⟩ <;> (rw [Auction.counts_take (by omega), Auction.step_yes ⟨⟨by omega, by omega, by omega⟩, (by first | exact Auction.fresh_of (by assumption) | assumption), (by first | (rw [Auction.has_in (by omega)]; omega) | (rw [Auction.has_out (by omega)]; omega))⟩, Auction.bdc_append, Auction.bdc_one, ← Auction.byc_set _ _ (by omega) (by omega)]; all_goals (simp; try rfl))) | (refine ⟨(k + 1, .slice Av (Auction.counts (l.take k) fs r fl).length cv), by dsimp only; omega, by dsimp only; omega, (H40.drop (List.Sublist.cons _ (List.Sublist.refl _))).weak ⟨by first | rfl | exact fi rfl (by dsimp only; omega), by first | rfl | exact fi rfl (by dsimp only; omega), by first | rfl | exact fi rfl (by dsimp only; omega), by first | rfl | exact fi rfl (by dsimp only; omega), by first | rfl | exact fi rfl (by dsimp only; omega), by first | rfl | exact fi rfl (by dsimp only; omega), by first | rfl | exact fi rfl (by dsimp only; omega), by first | rfl | exact fi rfl (by dsimp only; omega), by first | rfl | exact fi rfl (by dsimp only; omega), trivial⟩ ?_⟩ <;> (rw [Auction.counts_take (by omega), Auction.step_no (by rintro ⟨⟨g1, g2, g3⟩, g4, g5⟩; first | omega | exact Auction.stale_of (by assumption) g4 | (rw [Auction.has_in (by omega)] at g5; omega) | (rw [Auction.has_out (by omega)] at g5; omega))]; try rfl))
    · first
      | fail
      | skip
        clear H17; intro H41
        try simp only [decide_eq_true_eq, decide_eq_false_iff_not, Bool.not_eq_true', Bool.not_eq_false', Bool.and_eq_true, Bool.not_eq_true, Bool.not_eq_false] at hg18
        have hc0 : Note.checkBid (l.getD k Note.Bid.zero) = 0 := by omega
        have hbd := Auction.ok_bounds (Auction.check_ok hc0)
        refine plain (y_fieldB rfl z_field30_0 rfl (by first | (simp only [Nat.zero_add, Nat.add_zero, Nat.reduceAdd]; rfl) | rfl)) rfl rfl rfl H41 ?_
        clear H41; intro a42 H42
        refine plain (y_loadB rfl z_agg3 rfl (by repeat (first | exact Mh | apply Mt)) q_ix_c4b32_0) rfl rfl rfl H42 ?_
        clear H42; intro a43 H43
        refine plain (y_move rfl rfl) rfl rfl rfl H43 ?_
        clear H43; intro a44 H44
        refine plain (y_neq rfl rfl rfl) rfl rfl rfl H44 ?_
        clear H44; intro a45 H45
        refine plain (y_pick_f rfl rfl rfl) rfl rfl rfl H45 ?_
        clear H45; intro a46 H46
        refine plain (y_move rfl rfl) rfl rfl rfl H46 ?_
        clear H46; intro a47 H47
        refine Sx.part (d := 28) H47 rfl (fun hg48 => ?_) (fun hg48 => ?_)
        · first
          | fail
          | skip
            clear H47; intro H49
            try simp only [decide_eq_true_eq, decide_eq_false_iff_not, Bool.not_eq_true', Bool.not_eq_false', Bool.and_eq_true, Bool.not_eq_true, Bool.not_eq_false] at hg48
            refine skip rfl rfl rfl H49 ?_
            clear H49; intro a50 H50
            refine skip rfl rfl rfl H50 ?_
            clear H50; intro a51 H51
            refine skip rfl rfl rfl H51 ?_
            clear H51; intro a52 H52
            refine skip rfl rfl rfl H52 ?_
            clear H52; intro a53 H53
            refine plain (y_pick_t rfl rfl rfl) rfl rfl rfl H53 ?_
            clear H53; intro a54 H54
            refine plain (y_move rfl rfl) rfl rfl rfl H54 ?_
            clear H54; intro a55 H55
            refine skip rfl rfl rfl H55 ?_
            clear H55; intro a56 H56
            refine skip rfl rfl rfl H56 ?_
            clear H56; intro a57 H57
            refine skip rfl rfl rfl H57 ?_
            clear H57; intro a58 H58
            refine skip rfl rfl rfl H58 ?_
            clear H58; intro a59 H59
            refine skip rfl rfl rfl H59 ?_
            clear H59; intro a60 H60
            refine plain (y_pick_t rfl rfl rfl) rfl rfl rfl H60 ?_
            clear H60; intro a61 H61
            refine fin ?_
            refine then_n ?_
            refine cnd_t H61 rfl ?_
            refine wp_exit ?_
            refine then_x ?_
            refine inb_hit ?_
            refine then_n ?_
            refine reg ?_
            refine plain (y_add rfl rfl rfl (by first | exact w64 (by omega) (by omega) | rfl)) rfl rfl rfl H61 ?_
            clear H61; intro a63 H63
            refine plain (y_move rfl rfl) rfl rfl rfl H63 ?_
            clear H63; intro a64 H64
            refine fin ?_
            refine then_n ?_
            first | (have hz := isYes; refine ⟨(k + 1, _), by dsimp only; omega, by dsimp only; omega, (H64.drop (List.Sublist.cons _ (List.Sublist.cons _ (List.Sublist.refl _)))).weak ⟨by first | rfl | exact fi rfl (by dsimp only; omega), by first | rfl | exact fi rfl (by dsimp only; omega), by first | rfl | exact fi rfl (by dsimp only; omega), by first | rfl | exact fi rfl (by dsimp only; omega), by first | rfl | exact fi rfl (by dsimp only; omega), by first | rfl | exact fi rfl (by dsimp only; omega), by first | rfl | exact fi rfl (by dsimp only; omega), by first | rfl | exact fi rfl (by dsimp only; omega), by first | rfl | exact fi rfl (by dsimp only; omega), trivial⟩ ?_⟩ <;> (rw [Auction.counts_take (by omega), Auction.step_yes ⟨⟨by omega, by omega, by omega⟩, (by first | exact Auction.fresh_of (by assumption) | assumption), (by first | (rw [Auction.has_in (by omega)]; omega) | (rw [Auction.has_out (by omega)]; omega))⟩, Auction.bdc_append, Auction.bdc_one, ← Auction.byc_set _ _ (by omega) (by omega)]; all_goals (simp; try rfl))) | (refine ⟨(k + 1, .slice Av (Auction.counts (l.take k) fs r fl).length cv), by dsimp only; omega, by dsimp only; omega, (H64.drop (List.Sublist.cons _ (List.Sublist.refl _))).weak ⟨by first | rfl | exact fi rfl (by dsimp only; omega), by first | rfl | exact fi rfl (by dsimp only; omega), by first | rfl | exact fi rfl (by dsimp only; omega), by first | rfl | exact fi rfl (by dsimp only; omega), by first | rfl | exact fi rfl (by dsimp only; omega), by first | rfl | exact fi rfl (by dsimp only; omega), by first | rfl | exact fi rfl (by dsimp only; omega), by first | rfl | exact fi rfl (by dsimp only; omega), by first | rfl | exact fi rfl (by dsimp only; omega), trivial⟩ ?_⟩ <;> (rw [Auction.counts_take (by omega), Auction.step_no (by rintro ⟨⟨g1, g2, g3⟩, g4, g5⟩; first | omega | exact Auction.stale_of (by assumption) g4 | (rw [Auction.has_in (by omega)] at g5; omega) | (rw [Auction.has_out (by omega)] at g5; omega))]; try rfl))
        · first
          | fail
          | skip
            clear H47; intro H65
            try simp only [decide_eq_true_eq, decide_eq_false_iff_not, Bool.not_eq_true', Bool.not_eq_false', Bool.and_eq_true, Bool.not_eq_true, Bool.not_eq_false] at hg48
            refine plain (y_fieldB rfl z_field30_2 rfl (by first | (simp only [Nat.zero_add, Nat.add_zero, Nat.reduceAdd]; rfl) | rfl)) rfl rfl rfl H65 ?_
            clear H65; intro a66 H66
            refine plain (y_loadB rfl z_agg3 rfl (by repeat (first | exact Mh | apply Mt)) q_ix_c4b32_2) rfl rfl rfl H66 ?_
            clear H66; intro a67 H67
            refine plain (y_move rfl rfl) rfl rfl rfl H67 ?_
            clear H67; intro a68 H68
            refine plain (y_lss rfl rfl rfl) rfl rfl rfl H68 ?_
            clear H68; intro a69 H69
            refine plain (y_pick_f rfl rfl rfl) rfl rfl rfl H69 ?_
            clear H69; intro a70 H70
            refine plain (y_move rfl rfl) rfl rfl rfl H70 ?_
            clear H70; intro a71 H71
            refine Sx.part (d := 34) H71 rfl (fun hg72 => ?_) (fun hg72 => ?_)
            · first
              | fail
              | skip
                clear H71; intro H73
                try simp only [decide_eq_true_eq, decide_eq_false_iff_not, Bool.not_eq_true', Bool.not_eq_false', Bool.and_eq_true, Bool.not_eq_true, Bool.not_eq_false] at hg72
                refine skip rfl rfl rfl H73 ?_
                clear H73; intro a74 H74
                refine skip rfl rfl rfl H74 ?_
                clear H74; intro a75 H75
                refine skip rfl rfl rfl H75 ?_
                clear H75; intro a76 H76
                refine skip rfl rfl rfl H76 ?_
                clear H76; intro a77 H77
                refine skip rfl rfl rfl H77 ?_
                clear H77; intro a78 H78
                refine plain (y_pick_t rfl rfl rfl) rfl rfl rfl H78 ?_
                clear H78; intro a79 H79
                refine fin ?_
                refine then_n ?_
                refine cnd_t H79 rfl ?_
                refine wp_exit ?_
                refine then_x ?_
                refine inb_hit ?_
                refine then_n ?_
                refine reg ?_
                refine plain (y_add rfl rfl rfl (by first | exact w64 (by omega) (by omega) | rfl)) rfl rfl rfl H79 ?_
                clear H79; intro a81 H81
                refine plain (y_move rfl rfl) rfl rfl rfl H81 ?_
                clear H81; intro a82 H82
                refine fin ?_
                refine then_n ?_
                first | (have hz := isYes; refine ⟨(k + 1, _), by dsimp only; omega, by dsimp only; omega, (H82.drop (List.Sublist.cons _ (List.Sublist.cons _ (List.Sublist.refl _)))).weak ⟨by first | rfl | exact fi rfl (by dsimp only; omega), by first | rfl | exact fi rfl (by dsimp only; omega), by first | rfl | exact fi rfl (by dsimp only; omega), by first | rfl | exact fi rfl (by dsimp only; omega), by first | rfl | exact fi rfl (by dsimp only; omega), by first | rfl | exact fi rfl (by dsimp only; omega), by first | rfl | exact fi rfl (by dsimp only; omega), by first | rfl | exact fi rfl (by dsimp only; omega), by first | rfl | exact fi rfl (by dsimp only; omega), trivial⟩ ?_⟩ <;> (rw [Auction.counts_take (by omega), Auction.step_yes ⟨⟨by omega, by omega, by omega⟩, (by first | exact Auction.fresh_of (by assumption) | assumption), (by first | (rw [Auction.has_in (by omega)]; omega) | (rw [Auction.has_out (by omega)]; omega))⟩, Auction.bdc_append, Auction.bdc_one, ← Auction.byc_set _ _ (by omega) (by omega)]; all_goals (simp; try rfl))) | (refine ⟨(k + 1, .slice Av (Auction.counts (l.take k) fs r fl).length cv), by dsimp only; omega, by dsimp only; omega, (H82.drop (List.Sublist.cons _ (List.Sublist.refl _))).weak ⟨by first | rfl | exact fi rfl (by dsimp only; omega), by first | rfl | exact fi rfl (by dsimp only; omega), by first | rfl | exact fi rfl (by dsimp only; omega), by first | rfl | exact fi rfl (by dsimp only; omega), by first | rfl | exact fi rfl (by dsimp only; omega), by first | rfl | exact fi rfl (by dsimp only; omega), by first | rfl | exact fi rfl (by dsimp only; omega), by first | rfl | exact fi rfl (by dsimp only; omega), by first | rfl | exact fi rfl (by dsimp only; omega), trivial⟩ ?_⟩ <;> (rw [Auction.counts_take (by omega), Auction.step_no (by rintro ⟨⟨g1, g2, g3⟩, g4, g5⟩; first | omega | exact Auction.stale_of (by assumption) g4 | (rw [Auction.has_in (by omega)] at g5; omega) | (rw [Auction.has_out (by omega)] at g5; omega))]; try rfl))
            · first
              | fail
              | skip
                clear H71; intro H83
                try simp only [decide_eq_true_eq, decide_eq_false_iff_not, Bool.not_eq_true', Bool.not_eq_false', Bool.and_eq_true, Bool.not_eq_true, Bool.not_eq_false] at hg72
                refine plain (y_fieldB rfl z_field30_1 rfl (by first | (simp only [Nat.zero_add, Nat.add_zero, Nat.reduceAdd]; rfl) | rfl)) rfl rfl rfl H83 ?_
                clear H83; intro a84 H84
                refine plain (y_loadB rfl z_agg3 rfl (by repeat (first | exact Mh | apply Mt)) q_ix_c4b32_1) rfl rfl rfl H84 ?_
                clear H84; intro a85 H85
                refine plain (y_ixA rfl Tryd.underlying112 z_size3 rfl rfl (by omega) (by omega) rfl) rfl rfl rfl H85 ?_
                clear H85; intro a86 H86
                refine plain (y_loadB rfl z_agg3 rfl (by repeat (first | exact Mh | apply Mt)) (by rw [show ∀ q : Nat, 0 + q * 1 = q from fun q => by omega]; exact Auction.byc_at _ (by omega) (by omega))) rfl rfl rfl H86 ?_
                clear H86; intro a87 H87
                refine plain (y_gtr rfl rfl rfl) rfl rfl rfl H87 ?_
                clear H87; intro a88 H88
                refine plain (y_pick_f rfl rfl rfl) rfl rfl rfl H88 ?_
                clear H88; intro a89 H89
                refine fin ?_
                refine then_n ?_
                refine cnd H89 rfl (fun hc90 => ?_) (fun hc90 => ?_) -- cond 5
                · skip
                  try simp only [decide_eq_true_eq, decide_eq_false_iff_not, Bool.not_eq_true', Bool.not_eq_false', Bool.and_eq_true, Bool.not_eq_true, Bool.not_eq_false] at hc90
                  refine wp_exit ?_
                  refine then_x ?_
                  refine inb_hit ?_
                  refine then_n ?_
                  refine reg ?_
                  refine plain (y_add rfl rfl rfl (by first | exact w64 (by omega) (by omega) | rfl)) rfl rfl rfl H89 ?_
                  clear H89; intro a91 H91
                  refine plain (y_move rfl rfl) rfl rfl rfl H91 ?_
                  clear H91; intro a92 H92
                  refine fin ?_
                  refine then_n ?_
                  first | (have hz := isYes; refine ⟨(k + 1, _), by dsimp only; omega, by dsimp only; omega, (H92.drop (List.Sublist.cons _ (List.Sublist.cons _ (List.Sublist.refl _)))).weak ⟨by first | rfl | exact fi rfl (by dsimp only; omega), by first | rfl | exact fi rfl (by dsimp only; omega), by first | rfl | exact fi rfl (by dsimp only; omega), by first | rfl | exact fi rfl (by dsimp only; omega), by first | rfl | exact fi rfl (by dsimp only; omega), by first | rfl | exact fi rfl (by dsimp only; omega), by first | rfl | exact fi rfl (by dsimp only; omega), by first | rfl | exact fi rfl (by dsimp only; omega), by first | rfl | exact fi rfl (by dsimp only; omega), trivial⟩ ?_⟩ <;> (rw [Auction.counts_take (by omega), Auction.step_yes ⟨⟨by omega, by omega, by omega⟩, (by first | exact Auction.fresh_of (by assumption) | assumption), (by first | (rw [Auction.has_in (by omega)]; omega) | (rw [Auction.has_out (by omega)]; omega))⟩, Auction.bdc_append, Auction.bdc_one, ← Auction.byc_set _ _ (by omega) (by omega)]; all_goals (simp; try rfl))) | (refine ⟨(k + 1, .slice Av (Auction.counts (l.take k) fs r fl).length cv), by dsimp only; omega, by dsimp only; omega, (H92.drop (List.Sublist.cons _ (List.Sublist.refl _))).weak ⟨by first | rfl | exact fi rfl (by dsimp only; omega), by first | rfl | exact fi rfl (by dsimp only; omega), by first | rfl | exact fi rfl (by dsimp only; omega), by first | rfl | exact fi rfl (by dsimp only; omega), by first | rfl | exact fi rfl (by dsimp only; omega), by first | rfl | exact fi rfl (by dsimp only; omega), by first | rfl | exact fi rfl (by dsimp only; omega), by first | rfl | exact fi rfl (by dsimp only; omega), by first | rfl | exact fi rfl (by dsimp only; omega), trivial⟩ ?_⟩ <;> (rw [Auction.counts_take (by omega), Auction.step_no (by rintro ⟨⟨g1, g2, g3⟩, g4, g5⟩; first | omega | exact Auction.stale_of (by assumption) g4 | (rw [Auction.has_in (by omega)] at g5; omega) | (rw [Auction.has_out (by omega)] at g5; omega))]; try rfl))
                · skip
                  try simp only [decide_eq_true_eq, decide_eq_false_iff_not, Bool.not_eq_true', Bool.not_eq_false', Bool.and_eq_true, Bool.not_eq_true, Bool.not_eq_false] at hc90
                  refine wp_skip ?_
                  refine then_n ?_
                  refine wp_seq ?_
                  refine qreg (by kernel_rfl) (by kernel_rfl) H89 ?_
                  have F93 := H89.fr
                  clear H89
                  refine qplain (y_fieldB rfl z_field30_1 rfl (by first | (simp only [Nat.zero_add, Nat.add_zero, Nat.reduceAdd]; rfl) | rfl)) rfl rfl rfl F93 ?_
                  clear F93; intro a94 H94
                  refine qplain (y_loadB rfl z_agg3 rfl (by repeat (first | exact Mh | apply Mt)) q_ix_c4b32_1) rfl rfl rfl H94 ?_
                  clear H94; intro a95 H95
                  refine qplain (y_move rfl rfl) rfl rfl rfl H95 ?_
                  clear H95; intro a96 H96
                  refine qplain (y_len rfl Tryd.underlying23 rfl) rfl rfl rfl H96 ?_
                  clear H96; intro a97 H97
                  refine qplain (y_lss rfl rfl rfl) rfl rfl rfl H97 ?_
                  clear H97; intro a98 H98
                  refine qplain (y_move rfl rfl) rfl rfl rfl H98 ?_
                  clear H98; intro a99 H99
                  refine qpart (d := 46) H99 rfl (fun hg100 => ?_) (fun hg100 => ?_)
                  · first
                    | fail
                    | skip
                      clear H99; intro H101
                      try simp only [decide_eq_true_eq, decide_eq_false_iff_not, Bool.not_eq_true', Bool.not_eq_false', Bool.and_eq_true, Bool.not_eq_true, Bool.not_eq_false] at hg100
                      refine qplain (y_fieldB rfl z_field30_2 rfl (by first | (simp only [Nat.zero_add, Nat.add_zero, Nat.reduceAdd]; rfl) | rfl)) rfl rfl rfl H101 ?_
                      clear H101; intro a102 H102
                      refine qplain (y_loadB rfl z_agg3 rfl (by repeat (first | exact Mh | apply Mt)) q_ix_c4b32_2) rfl rfl rfl H102 ?_
                      clear H102; intro a103 H103
                      refine qplain (y_move rfl rfl) rfl rfl rfl H103 ?_
                      clear H103; intro a104 H104
                      refine qplain (y_fieldB rfl z_field30_1 rfl (by first | (simp only [Nat.zero_add, Nat.add_zero, Nat.reduceAdd]; rfl) | rfl)) rfl rfl rfl H104 ?_
                      clear H104; intro a105 H105
                      refine qplain (y_loadB rfl z_agg3 rfl (by repeat (first | exact Mh | apply Mt)) q_ix_c4b32_1) rfl rfl rfl H105 ?_
                      clear H105; intro a106 H106
                      refine qplain (y_ixR rfl Tryd.underlying23 z_size3 rfl rfl (by omega) (by omega) (rd_old hB (by simp)) (by first | (rw [Auction.bdc_len hw]; omega) | (rw [List.length_map]; omega))) rfl rfl rfl H106 ?_
                      clear H106; intro a107 H107
                      refine qplain (y_loadR rfl z_agg3 rfl (rd_old hB (by simp)) (by rw [Nat.mul_one]; exact i64_get fs _ (by omega))) rfl rfl rfl H107 ?_
                      clear H107; intro a108 H108
                      refine qplain (y_leq rfl rfl rfl) rfl rfl rfl H108 ?_
                      clear H108; intro a109 H109
                      refine qplain (y_pick_t rfl rfl rfl) rfl rfl rfl H109 ?_
                      clear H109; intro a110 H110
                      refine qplain (y_move rfl rfl) rfl rfl rfl H110 ?_
                      clear H110; intro a111 H111
                      refine qpart (d := 56) H111 rfl (fun hg112 => ?_) (fun hg112 => ?_)
                      · first
                        | fail
                        | skip
                          clear H111; intro H113
                          try simp only [decide_eq_true_eq, decide_eq_false_iff_not, Bool.not_eq_true', Bool.not_eq_false', Bool.and_eq_true, Bool.not_eq_true, Bool.not_eq_false] at hg112
                          refine qskip rfl rfl rfl H113 ?_
                          clear H113; intro a114 H114
                          refine qskip rfl rfl rfl H114 ?_
                          clear H114; intro a115 H115
                          refine qskip rfl rfl rfl H115 ?_
                          clear H115; intro a116 H116
                          refine qskip rfl rfl rfl H116 ?_
                          clear H116; intro a117 H117
                          refine qskip rfl rfl rfl H117 ?_
                          clear H117; intro a118 H118
                          refine qskip rfl rfl rfl H118 ?_
                          clear H118; intro a119 H119
                          refine qskip rfl rfl rfl H119 ?_
                          clear H119; intro a120 H120
                          refine qskip rfl rfl rfl H120 ?_
                          clear H120; intro a121 H121
                          refine qskip rfl rfl rfl H121 ?_
                          clear H121; intro a122 H122
                          refine qskip rfl rfl rfl H122 ?_
                          clear H122; intro a123 H123
                          refine qplain (y_pick_t rfl rfl rfl) rfl rfl rfl H123 ?_
                          clear H123; intro a124 H124
                          refine qfin H124 ?_
                          clear H124; intro wx125 H125
                          refine then_n ?_
                          refine cnd_t H125 rfl ?_
                          refine wp_seq ?_
                          have isYes := True.intro
                          refine reg ?_
                          refine plain (y_fieldB rfl z_field30_1 rfl (by first | (simp only [Nat.zero_add, Nat.add_zero, Nat.reduceAdd]; rfl) | rfl)) rfl rfl rfl H125 ?_
                          clear H125; intro a127 H127
                          refine plain (y_loadB rfl z_agg3 rfl (by repeat (first | exact Mh | apply Mt)) q_ix_c4b32_1) rfl rfl rfl H127 ?_
                          clear H127; intro a128 H128
                          refine plain (y_ixA rfl Tryd.underlying112 z_size3 rfl rfl (by omega) (by omega) rfl) rfl rfl rfl H128 ?_
                          clear H128; intro a129 H129
                          refine st_store1 rfl z_size3 rfl rfl rfl (by repeat (first | exact Uh | apply Ut)) (by rw [Auction.byc_len]; omega) rfl rfl H129 ?_
                          clear H129; intro wx130 H130
                          refine fin ?_
                          refine then_n ?_
                          refine reg ?_
                          refine plain (y_move rfl rfl) rfl rfl rfl H130 ?_
                          clear H130; intro a131 H131
                          refine plain (y_loadAB rfl z_agg30 z_size30 rfl (by repeat (first | exact Mh | apply Mt)) (q_ld_c4b32_0_36 (by assumption)) (q_len_c4b32 (by assumption))) rfl rfl rfl H131 ?_
                          clear H131; intro a132 H132
                          refine st_buildSlice rfl Tryd.underlying22 z_size30 z_zero30 rfl rfl rfl (lay_agg (agg_cells _) (Auction.bid_len htg) (by simp)) rfl rfl rfl H132 ?_
                          clear H132; intro b133 a133 wx133 H133
                          refine st_append rfl z_slice22 z_notint22 rfl rfl (fun _ => (by repeat (first | exact Uh | apply Ut))) (fun w hs => Src.slice ((rd_blkA (by repeat (first | exact Mh | apply Mt))) w hs) (Auction.bid_len htg) (Auction.bid_cell _)) (by unfold maxLen at *; first | omega | (simp only [List.length_cons, List.length_nil, List.length_append, List.length_map]; omega)) (by omega) rfl rfl rfl H133 ?_
                          clear H133; intro v134 a134 wx134 hnil134 H134
                          obtain ⟨Ar134, cr134, hvr134, hRr134, hmr134⟩ := row_shape (v := v134) H134.sep (by repeat (first | exact Mh | apply Mt))
                          subst hvr134
                          refine plain (y_assign rfl rfl) rfl rfl rfl H134 ?_
                          clear H134; intro a135 H135
                          refine fin ?_
                          refine inb_n ?_
                          refine then_n ?_
                          refine reg ?_
                          refine plain (y_add rfl rfl rfl (by first | exact w64 (by omega) (by omega) | rfl)) rfl rfl rfl H135 ?_
                          clear H135; intro a136 H136
                          refine plain (y_move rfl rfl) rfl rfl rfl H136 ?_
                          clear H136; intro a137 H137
                          refine fin ?_
                          refine then_n ?_
                          first | (have hz := isYes; refine ⟨(k + 1, _), by dsimp only; omega, by dsimp only; omega, (H137.drop (List.Sublist.cons _ (List.Sublist.cons _ (List.Sublist.refl _)))).weak ⟨by first | rfl | exact fi rfl (by dsimp only; omega), by first | rfl | exact fi rfl (by dsimp only; omega), by first | rfl | exact fi rfl (by dsimp only; omega), by first | rfl | exact fi rfl (by dsimp only; omega), by first | rfl | exact fi rfl (by dsimp only; omega), by first | rfl | exact fi rfl (by dsimp only; omega), by first | rfl | exact fi rfl (by dsimp only; omega), by first | rfl | exact fi rfl (by dsimp only; omega), by first | rfl | exact fi rfl (by dsimp only; omega), trivial⟩ ?_⟩ <;> (rw [Auction.counts_take (by omega), Auction.step_yes ⟨⟨by omega, by omega, by omega⟩, (by first | exact Auction.fresh_of (by assumption) | assumption), (by first | (rw [Auction.has_in (by omega)]; omega) | (rw [Auction.has_out (by omega)]; omega))⟩, Auction.bdc_append, Auction.bdc_one, ← Auction.byc_set _ _ (by omega) (by omega)]; all_goals (simp; try rfl))) | (refine ⟨(k + 1, .slice Av (Auction.counts (l.take k) fs r fl).length cv), by dsimp only; omega, by dsimp only; omega, (H137.drop (List.Sublist.cons _ (List.Sublist.refl _))).weak ⟨by first | rfl | exact fi rfl (by dsimp only; omega), by first | rfl | exact fi rfl (by dsimp only; omega), by first | rfl | exact fi rfl (by dsimp only; omega), by first | rfl | exact fi rfl (by dsimp only; omega), by first | rfl | exact fi rfl (by dsimp only; omega), by first | rfl | exact fi rfl (by dsimp only; omega), by first | rfl | exact fi rfl (by dsimp only; omega), by first | rfl | exact fi rfl (by dsimp only; omega), by first | rfl | exact fi rfl (by dsimp only; omega), trivial⟩ ?_⟩ <;> (rw [Auction.counts_take (by omega), Auction.step_no (by rintro ⟨⟨g1, g2, g3⟩, g4, g5⟩; first | omega | exact Auction.stale_of (by assumption) g4 | (rw [Auction.has_in (by omega)] at g5; omega) | (rw [Auction.has_out (by omega)] at g5; omega))]; try rfl))
                      · first
                        | fail
                        | skip
                          clear H111; intro H138
                          try simp only [decide_eq_true_eq, decide_eq_false_iff_not, Bool.not_eq_true', Bool.not_eq_false', Bool.and_eq_true, Bool.not_eq_true, Bool.not_eq_false] at hg112
                          refine qplain (y_fieldB rfl z_field30_1 rfl (by first | (simp only [Nat.zero_add, Nat.add_zero, Nat.reduceAdd]; rfl) | rfl)) rfl rfl rfl H138 ?_
                          clear H138; intro a139 H139
                          refine qplain (y_loadB rfl z_agg3 rfl (by repeat (first | exact Mh | apply Mt)) q_ix_c4b32_1) rfl rfl rfl H139 ?_
                          clear H139; intro a140 H140
                          refine qplain (y_move rfl rfl) rfl rfl rfl H140 ?_
                          clear H140; intro a141 H141
                          refine qplain (y_len rfl Tryd.underlying23 rfl) rfl rfl rfl H141 ?_
                          clear H141; intro a142 H142
                          refine qplain (y_geq rfl rfl rfl) rfl rfl rfl H142 ?_
                          clear H142; intro a143 H143
                          refine qplain (y_move rfl rfl) rfl rfl rfl H143 ?_
                          clear H143; intro a144 H144
                          refine qpart (d := 62) H144 rfl (fun hg145 => ?_) (fun hg145 => ?_)
                          · first
                            | fail
                            | skip
                              clear H144; intro H146
                              try simp only [decide_eq_true_eq, decide_eq_false_iff_not, Bool.not_eq_true', Bool.not_eq_false', Bool.and_eq_true, Bool.not_eq_true, Bool.not_eq_false] at hg145
                              refine qplain (y_fieldB rfl z_field30_2 rfl (by first | (simp only [Nat.zero_add, Nat.add_zero, Nat.reduceAdd]; rfl) | rfl)) rfl rfl rfl H146 ?_
                              clear H146; intro a147 H147
                              refine qplain (y_loadB rfl z_agg3 rfl (by repeat (first | exact Mh | apply Mt)) q_ix_c4b32_2) rfl rfl rfl H147 ?_
                              clear H147; intro a148 H148
                              refine qplain (y_eql rfl rfl rfl) rfl rfl rfl H148 ?_
                              clear H148; intro a149 H149
                              refine qplain (y_pick_t rfl rfl rfl) rfl rfl rfl H149 ?_
                              clear H149; intro a150 H150
                              refine qplain (y_pick_f rfl rfl rfl) rfl rfl rfl H150 ?_
                              clear H150; intro a151 H151
                              refine qfin H151 ?_
                              clear H151; intro wx152 H152
                              refine then_n ?_
                              refine cnd H152 rfl (fun hc153 => ?_) (fun hc153 => ?_) -- cond 7
                              · skip
                                try simp only [decide_eq_true_eq, decide_eq_false_iff_not, Bool.not_eq_true', Bool.not_eq_false', Bool.and_eq_true, Bool.not_eq_true, Bool.not_eq_false] at hc153
                                refine wp_seq ?_
                                have isYes := True.intro
                                refine reg ?_
                                refine plain (y_fieldB rfl z_field30_1 rfl (by first | (simp only [Nat.zero_add, Nat.add_zero, Nat.reduceAdd]; rfl) | rfl)) rfl rfl rfl H152 ?_
                                clear H152; intro a154 H154
                                refine plain (y_loadB rfl z_agg3 rfl (by repeat (first | exact Mh | apply Mt)) q_ix_c4b32_1) rfl rfl rfl H154 ?_
                                clear H154; intro a155 H155
                                refine plain (y_ixA rfl Tryd.underlying112 z_size3 rfl rfl (by omega) (by omega) rfl) rfl rfl rfl H155 ?_
                                clear H155; intro a156 H156
                                refine st_store1 rfl z_size3 rfl rfl rfl (by repeat (first | exact Uh | apply Ut)) (by rw [Auction.byc_len]; omega) rfl rfl H156 ?_
                                clear H156; intro wx157 H157
                                refine fin ?_
                                refine then_n ?_
                                refine reg ?_
                                refine plain (y_move rfl rfl) rfl rfl rfl H157 ?_
                                clear H157; intro a158 H158
                                refine plain (y_loadAB rfl z_agg30 z_size30 rfl (by repeat (first | exact Mh | apply Mt)) (q_ld_c4b32_0_36 (by assumption)) (q_len_c4b32 (by assumption))) rfl rfl rfl H158 ?_
                                clear H158; intro a159 H159
                                refine st_buildSlice rfl Tryd.underlying22 z_size30 z_zero30 rfl rfl rfl (lay_agg (agg_cells _) (Auction.bid_len htg) (by simp)) rfl rfl rfl H159 ?_
                                clear H159; intro b160 a160 wx160 H160
                                refine st_append rfl z_slice22 z_notint22 rfl rfl (fun _ => (by repeat (first | exact Uh | apply Ut))) (fun w hs => Src.slice ((rd_blkA (by repeat (first | exact Mh | apply Mt))) w hs) (Auction.bid_len htg) (Auction.bid_cell _)) (by unfold maxLen at *; first | omega | (simp only [List.length_cons, List.length_nil, List.length_append, List.length_map]; omega)) (by omega) rfl rfl rfl H160 ?_
                                clear H160; intro v161 a161 wx161 hnil161 H161
                                obtain ⟨Ar161, cr161, hvr161, hRr161, hmr161⟩ := row_shape (v := v161) H161.sep (by repeat (first | exact Mh | apply Mt))
                                subst hvr161
                                refine plain (y_assign rfl rfl) rfl rfl rfl H161 ?_
                                clear H161; intro a162 H162
                                refine fin ?_
                                refine inb_n ?_
                                refine then_n ?_
                                refine reg ?_
                                refine plain (y_add rfl rfl rfl (by first | exact w64 (by omega) (by omega) | rfl)) rfl rfl rfl H162 ?_
                                clear H162; intro a163 H163
                                refine plain (y_move rfl rfl) rfl rfl rfl H163 ?_
                                clear H163; intro a164 H164
                                refine fin ?_
                                refine then_n ?_
                                first | (have hz := isYes; refine ⟨(k + 1, _), by dsimp only; omega, by dsimp only; omega, (H164.drop (List.Sublist.cons _ (List.Sublist.cons _ (List.Sublist.refl _)))).weak ⟨by first | rfl | exact fi rfl (by dsimp only; omega), by first | rfl | exact fi rfl (by dsimp only; omega), by first | rfl | exact fi rfl (by dsimp only; omega), by first | rfl | exact fi rfl (by dsimp only; omega), by first | rfl | exact fi rfl (by dsimp only; omega), by first | rfl | exact fi rfl (by dsimp only; omega), by first | rfl | exact fi rfl (by dsimp only; omega), by first | rfl | exact fi rfl (by dsimp only; omega), by first | rfl | exact fi rfl (by dsimp only; omega), trivial⟩ ?_⟩ <;> (rw [Auction.counts_take (by omega), Auction.step_yes ⟨⟨by omega, by omega, by omega⟩, (by first | exact Auction.fresh_of (by assumption) | assumption), (by first | (rw [Auction.has_in (by omega)]; omega) | (rw [Auction.has_out (by omega)]; omega))⟩, Auction.bdc_append, Auction.bdc_one, ← Auction.byc_set _ _ (by omega) (by omega)]; all_goals (simp; try rfl))) | (refine ⟨(k + 1, .slice Av (Auction.counts (l.take k) fs r fl).length cv), by dsimp only; omega, by dsimp only; omega, (H164.drop (List.Sublist.cons _ (List.Sublist.refl _))).weak ⟨by first | rfl | exact fi rfl (by dsimp only; omega), by first | rfl | exact fi rfl (by dsimp only; omega), by first | rfl | exact fi rfl (by dsimp only; omega), by first | rfl | exact fi rfl (by dsimp only; omega), by first | rfl | exact fi rfl (by dsimp only; omega), by first | rfl | exact fi rfl (by dsimp only; omega), by first | rfl | exact fi rfl (by dsimp only; omega), by first | rfl | exact fi rfl (by dsimp only; omega), by first | rfl | exact fi rfl (by dsimp only; omega), trivial⟩ ?_⟩ <;> (rw [Auction.counts_take (by omega), Auction.step_no (by rintro ⟨⟨g1, g2, g3⟩, g4, g5⟩; first | omega | exact Auction.stale_of (by assumption) g4 | (rw [Auction.has_in (by omega)] at g5; omega) | (rw [Auction.has_out (by omega)] at g5; omega))]; try rfl))
                              · skip
                                try simp only [decide_eq_true_eq, decide_eq_false_iff_not, Bool.not_eq_true', Bool.not_eq_false', Bool.and_eq_true, Bool.not_eq_true, Bool.not_eq_false] at hc153
                                refine wp_skip ?_
                                refine inb_n ?_
                                refine then_n ?_
                                refine reg ?_
                                refine plain (y_add rfl rfl rfl (by first | exact w64 (by omega) (by omega) | rfl)) rfl rfl rfl H152 ?_
                                clear H152; intro a165 H165
                                refine plain (y_move rfl rfl) rfl rfl rfl H165 ?_
                                clear H165; intro a166 H166
                                refine fin ?_
                                refine then_n ?_
                                first | (have hz := isYes; refine ⟨(k + 1, _), by dsimp only; omega, by dsimp only; omega, (H166.drop (List.Sublist.cons _ (List.Sublist.cons _ (List.Sublist.refl _)))).weak ⟨by first | rfl | exact fi rfl (by dsimp only; omega), by first | rfl | exact fi rfl (by dsimp only; omega), by first | rfl | exact fi rfl (by dsimp only; omega), by first | rfl | exact fi rfl (by dsimp only; omega), by first | rfl | exact fi rfl (by dsimp only; omega), by first | rfl | exact fi rfl (by dsimp only; omega), by first | rfl | exact fi rfl (by dsimp only; omega), by first | rfl | exact fi rfl (by dsimp only; omega), by first | rfl | exact fi rfl (by dsimp only; omega), trivial⟩ ?_⟩ <;> (rw [Auction.counts_take (by omega), Auction.step_yes ⟨⟨by omega, by omega, by omega⟩, (by first | exact Auction.fresh_of (by assumption) | assumption), (by first | (rw [Auction.has_in (by omega)]; omega) | (rw [Auction.has_out (by omega)]; omega))⟩, Auction.bdc_append, Auction.bdc_one, ← Auction.byc_set _ _ (by omega) (by omega)]; all_goals (simp; try rfl))) | (refine ⟨(k + 1, .slice Av (Auction.counts (l.take k) fs r fl).length cv), by dsimp only; omega, by dsimp only; omega, (H166.drop (List.Sublist.cons _ (List.Sublist.refl _))).weak ⟨by first | rfl | exact fi rfl (by dsimp only; omega), by first | rfl | exact fi rfl (by dsimp only; omega), by first | rfl | exact fi rfl (by dsimp only; omega), by first | rfl | exact fi rfl (by dsimp only; omega), by first | rfl | exact fi rfl (by dsimp only; omega), by first | rfl | exact fi rfl (by dsimp only; omega), by first | rfl | exact fi rfl (by dsimp only; omega), by first | rfl | exact fi rfl (by dsimp only; omega), by first | rfl | exact fi rfl (by dsimp only; omega), trivial⟩ ?_⟩ <;> (rw [Auction.counts_take (by omega), Auction.step_no (by rintro ⟨⟨g1, g2, g3⟩, g4, g5⟩; first | omega | exact Auction.stale_of (by assumption) g4 | (rw [Auction.has_in (by omega)] at g5; omega) | (rw [Auction.has_out (by omega)] at g5; omega))]; try rfl))
                          · first
                            | fail
                            | skip
                              clear H144; intro H167
                              try simp only [decide_eq_true_eq, decide_eq_false_iff_not, Bool.not_eq_true', Bool.not_eq_false', Bool.and_eq_true, Bool.not_eq_true, Bool.not_eq_false] at hg145
                              refine qskip rfl rfl rfl H167 ?_
                              clear H167; intro a168 H168
                              refine qskip rfl rfl rfl H168 ?_
                              clear H168; intro a169 H169
                              refine qskip rfl rfl rfl H169 ?_
                              clear H169; intro a170 H170
                              refine qplain (y_pick_f rfl rfl rfl) rfl rfl rfl H170 ?_
                              clear H170; intro a171 H171
                              refine qplain (y_pick_f rfl rfl rfl) rfl rfl rfl H171 ?_
                              clear H171; intro a172 H172
                              refine qfin H172 ?_
                              clear H172; intro wx173 H173
                              refine then_n ?_
                              refine cnd_f H173 rfl ?_
                              refine wp_skip ?_
                              refine inb_n ?_
                              refine then_n ?_
                              refine reg ?_
                              refine plain (y_add rfl rfl rfl (by first | exact w64 (by omega) (by omega) | rfl)) rfl rfl rfl H173 ?_
                              clear H173; intro a175 H175
                              refine plain (y_move rfl rfl) rfl rfl rfl H175 ?_
                              clear H175; intro a176 H176
                              refine fin ?_
                              refine then_n ?_
                              first | (have hz := isYes; refine ⟨(k + 1, _), by dsimp only; omega, by dsimp only; omega, (H176.drop (List.Sublist.cons _ (List.Sublist.cons _ (List.Sublist.refl _)))).weak ⟨by first | rfl | exact fi rfl (by dsimp only; omega), by first | rfl | exact fi rfl (by dsimp only; omega), by first | rfl | exact fi rfl (by dsimp only; omega), by first | rfl | exact fi rfl (by dsimp only; omega), by first | rfl | exact fi rfl (by dsimp only; omega), by first | rfl | exact fi rfl (by dsimp only; omega), by first | rfl | exact fi rfl (by dsimp only; omega), by first | rfl | exact fi rfl (by dsimp only; omega), by first | rfl | exact fi rfl (by dsimp only; omega), trivial⟩ ?_⟩ <;> (rw [Auction.counts_take (by omega), Auction.step_yes ⟨⟨by omega, by omega, by omega⟩, (by first | exact Auction.fresh_of (by assumption) | assumption), (by first | (rw [Auction.has_in (by omega)]; omega) | (rw [Auction.has_out (by omega)]; omega))⟩, Auction.bdc_append, Auction.bdc_one, ← Auction.byc_set _ _ (by omega) (by omega)]; all_goals (simp; try rfl))) | (refine ⟨(k + 1, .slice Av (Auction.counts (l.take k) fs r fl).length cv), by dsimp only; omega, by dsimp only; omega, (H176.drop (List.Sublist.cons _ (List.Sublist.refl _))).weak ⟨by first | rfl | exact fi rfl (by dsimp only; omega), by first | rfl | exact fi rfl (by dsimp only; omega), by first | rfl | exact fi rfl (by dsimp only; omega), by first | rfl | exact fi rfl (by dsimp only; omega), by first | rfl | exact fi rfl (by dsimp only; omega), by first | rfl | exact fi rfl (by dsimp only; omega), by first | rfl | exact fi rfl (by dsimp only; omega), by first | rfl | exact fi rfl (by dsimp only; omega), by first | rfl | exact fi rfl (by dsimp only; omega), trivial⟩ ?_⟩ <;> (rw [Auction.counts_take (by omega), Auction.step_no (by rintro ⟨⟨g1, g2, g3⟩, g4, g5⟩; first | omega | exact Auction.stale_of (by assumption) g4 | (rw [Auction.has_in (by omega)] at g5; omega) | (rw [Auction.has_out (by omega)] at g5; omega))]; try rfl))
                  · first
                    | fail
                    | skip
                      clear H99; intro H177
                      try simp only [decide_eq_true_eq, decide_eq_false_iff_not, Bool.not_eq_true', Bool.not_eq_false', Bool.and_eq_true, Bool.not_eq_true, Bool.not_eq_false] at hg100
                      refine qskip rfl rfl rfl H177 ?_
                      clear H177; intro a178 H178
                      refine qskip rfl rfl rfl H178 ?_
                      clear H178; intro a179 H179
                      refine qskip rfl rfl rfl H179 ?_
                      clear H179; intro a180 H180
                      refine qskip rfl rfl rfl H180 ?_
                      clear H180; intro a181 H181
                      refine qskip rfl rfl rfl H181 ?_
                      clear H181; intro a182 H182
                      refine qskip rfl rfl rfl H182 ?_
                      clear H182; intro a183 H183
                      refine qskip rfl rfl rfl H183 ?_
                      clear H183; intro a184 H184
                      refine qskip rfl rfl rfl H184 ?_
                      clear H184; intro a185 H185
                      refine qplain (y_pick_f rfl rfl rfl) rfl rfl rfl H185 ?_
                      clear H185; intro a186 H186
                      refine qplain (y_move rfl rfl) rfl rfl rfl H186 ?_
                      clear H186; intro a187 H187
                      refine qplain (y_fieldB rfl z_field30_1 rfl (by first | (simp only [Nat.zero_add, Nat.add_zero, Nat.reduceAdd]; rfl) | rfl)) rfl rfl rfl H187 ?_
                      clear H187; intro a188 H188
                      refine qplain (y_loadB rfl z_agg3 rfl (by repeat (first | exact Mh | apply Mt)) q_ix_c4b32_1) rfl rfl rfl H188 ?_
                      clear H188; intro a189 H189
                      refine qplain (y_move rfl rfl) rfl rfl rfl H189 ?_
                      clear H189; intro a190 H190
                      refine qplain (y_len rfl Tryd.underlying23 rfl) rfl rfl rfl H190 ?_
                      clear H190; intro a191 H191
                      refine qplain (y_geq rfl rfl rfl) rfl rfl rfl H191 ?_
                      clear H191; intro a192 H192
                      refine qplain (y_move rfl rfl) rfl rfl rfl H192 ?_
                      clear H192; intro a193 H193
                      refine qpart (d := 62) H193 rfl (fun hg194 => ?_) (fun hg194 => ?_)
                      · first
                        | fail
                        | skip
                          clear H193; intro H195
                          try simp only [decide_eq_true_eq, decide_eq_false_iff_not, Bool.not_eq_true', Bool.not_eq_false', Bool.and_eq_true, Bool.not_eq_true, Bool.not_eq_false] at hg194
                          refine qplain (y_fieldB rfl z_field30_2 rfl (by first | (simp only [Nat.zero_add, Nat.add_zero, Nat.reduceAdd]; rfl) | rfl)) rfl rfl rfl H195 ?_
                          clear H195; intro a196 H196
                          refine qplain (y_loadB rfl z_agg3 rfl (by repeat (first | exact Mh | apply Mt)) q_ix_c4b32_2) rfl rfl rfl H196 ?_
                          clear H196; intro a197 H197
                          refine qplain (y_eql rfl rfl rfl) rfl rfl rfl H197 ?_
                          clear H197; intro a198 H198
                          refine qplain (y_pick_t rfl rfl rfl) rfl rfl rfl H198 ?_
                          clear H198; intro a199 H199
                          refine qplain (y_pick_f rfl rfl rfl) rfl rfl rfl H199 ?_
                          clear H199; intro a200 H200
                          refine qfin H200 ?_
                          clear H200; intro wx201 H201
                          refine then_n ?_
                          refine cnd H201 rfl (fun hc202 => ?_) (fun hc202 => ?_) -- cond 9
                          · skip
                            try simp only [decide_eq_true_eq, decide_eq_false_iff_not, Bool.not_eq_true', Bool.not_eq_false', Bool.and_eq_true, Bool.not_eq_true, Bool.not_eq_false] at hc202
                            refine wp_seq ?_
                            have isYes := True.intro
                            refine reg ?_
                            refine plain (y_fieldB rfl z_field30_1 rfl (by first | (simp only [Nat.zero_add, Nat.add_zero, Nat.reduceAdd]; rfl) | rfl)) rfl rfl rfl H201 ?_
                            clear H201; intro a203 H203
                            refine plain (y_loadB rfl z_agg3 rfl (by repeat (first | exact Mh | apply Mt)) q_ix_c4b32_1) rfl rfl rfl H203 ?_
                            clear H203; intro a204 H204
                            refine plain (y_ixA rfl Tryd.underlying112 z_size3 rfl rfl (by omega) (by omega) rfl) rfl rfl rfl H204 ?_
                            clear H204; intro a205 H205
                            refine st_store1 rfl z_size3 rfl rfl rfl (by repeat (first | exact Uh | apply Ut)) (by rw [Auction.byc_len]; omega) rfl rfl H205 ?_
                            clear H205; intro wx206 H206
                            refine fin ?_
                            refine then_n ?_
                            refine reg ?_
                            refine plain (y_move rfl rfl) rfl rfl rfl H206 ?_
                            clear H206; intro a207 H207
                            refine plain (y_loadAB rfl z_agg30 z_size30 rfl (by repeat (first | exact Mh | apply Mt)) (q_ld_c4b32_0_36 (by assumption)) (q_len_c4b32 (by assumption))) rfl rfl rfl H207 ?_
                            clear H207; intro a208 H208
                            refine st_buildSlice rfl Tryd.underlying22 z_size30 z_zero30 rfl rfl rfl (lay_agg (agg_cells _) (Auction.bid_len htg) (by simp)) rfl rfl rfl H208 ?_
                            clear H208; intro b209 a209 wx209 H209
                            refine st_append rfl z_slice22 z_notint22 rfl rfl (fun _ => (by repeat (first | exact Uh | apply Ut))) (fun w hs => Src.slice ((rd_blkA (by repeat (first | exact Mh | apply Mt))) w hs) (Auction.bid_len htg) (Auction.bid_cell _)) (by unfold maxLen at *; first | omega | (simp only [List.length_cons, List.length_nil, List.length_append, List.length_map]; omega)) (by omega) rfl rfl rfl H209 ?_
                            clear H209; intro v210 a210 wx210 hnil210 H210
                            obtain ⟨Ar210, cr210, hvr210, hRr210, hmr210⟩ := row_shape (v := v210) H210.sep (by repeat (first | exact Mh | apply Mt))
                            subst hvr210
                            refine plain (y_assign rfl rfl) rfl rfl rfl H210 ?_
                            clear H210; intro a211 H211
                            refine fin ?_
                            refine inb_n ?_
                            refine then_n ?_
                            refine reg ?_
                            refine plain (y_add rfl rfl rfl (by first | exact w64 (by omega) (by omega) | rfl)) rfl rfl rfl H211 ?_
                            clear H211; intro a212 H212
                            refine plain (y_move rfl rfl) rfl rfl rfl H212 ?_
                            clear H212; intro a213 H213
                            refine fin ?_
                            refine then_n ?_
                            first | (have hz := isYes; refine ⟨(k + 1, _), by dsimp only; omega, by dsimp only; omega, (H213.drop (List.Sublist.cons _ (List.Sublist.cons _ (List.Sublist.refl _)))).weak ⟨by first | rfl | exact fi rfl (by dsimp only; omega), by first | rfl | exact fi rfl (by dsimp only; omega), by first | rfl | exact fi rfl (by dsimp only; omega), by first | rfl | exact fi rfl (by dsimp only; omega), by first | rfl | exact fi rfl (by dsimp only; omega), by first | rfl | exact fi rfl (by dsimp only; omega), by first | rfl | exact fi rfl (by dsimp only; omega), by first | rfl | exact fi rfl (by dsimp only; omega), by first | rfl | exact fi rfl (by dsimp only; omega), trivial⟩ ?_⟩ <;> (rw [Auction.counts_take (by omega), Auction.step_yes ⟨⟨by omega, by omega, by omega⟩, (by first | exact Auction.fresh_of (by assumption) | assumption), (by first | (rw [Auction.has_in (by omega)]; omega) | (rw [Auction.has_out (by omega)]; omega))⟩, Auction.bdc_append, Auction.bdc_one, ← Auction.byc_set _ _ (by omega) (by omega)]; all_goals (simp; try rfl))) | (refine ⟨(k + 1, .slice Av (Auction.counts (l.take k) fs r fl).length cv), by dsimp only; omega, by dsimp only; omega, (H213.drop (List.Sublist.cons _ (List.Sublist.refl _))).weak ⟨by first | rfl | exact fi rfl (by dsimp only; omega), by first | rfl | exact fi rfl (by dsimp only; omega), by first | rfl | exact fi rfl (by dsimp only; omega), by first | rfl | exact fi rfl (by dsimp only; omega), by first | rfl | exact fi rfl (by dsimp only; omega), by first | rfl | exact fi rfl (by dsimp only; omega), by first | rfl | exact fi rfl (by dsimp only; omega), by first | rfl | exact fi rfl (by dsimp only; omega), by first | rfl | exact fi rfl (by dsimp only; omega), trivial⟩ ?_⟩ <;> (rw [Auction.counts_take (by omega), Auction.step_no (by rintro ⟨⟨g1, g2, g3⟩, g4, g5⟩; first | omega | exact Auction.stale_of (by assumption) g4 | (rw [Auction.has_in (by omega)] at g5; omega) | (rw [Auction.has_out (by omega)] at g5; omega))]; try rfl))
                          · skip
                            try simp only [decide_eq_true_eq, decide_eq_false_iff_not, Bool.not_eq_true', Bool.not_eq_false', Bool.and_eq_true, Bool.not_eq_true, Bool.not_eq_false] at hc202
                            refine wp_skip ?_
                            refine inb_n ?_
                            refine then_n ?_
                            refine reg ?_
                            refine plain (y_add rfl rfl rfl (by first | exact w64 (by omega) (by omega) | rfl)) rfl rfl rfl H201 ?_
                            clear H201; intro a214 H214
                            refine plain (y_move rfl rfl) rfl rfl rfl H214 ?_
                            clear H214; intro a215 H215
                            refine fin ?_
                            refine then_n ?_
                            first | (have hz := isYes; refine ⟨(k + 1, _), by dsimp only; omega, by dsimp only; omega, (H215.drop (List.Sublist.cons _ (List.Sublist.cons _ (List.Sublist.refl _)))).weak ⟨by first | rfl | exact fi rfl (by dsimp only; omega), by first | rfl | exact fi rfl (by dsimp only; omega), by first | rfl | exact fi rfl (by dsimp only; omega), by first | rfl | exact fi rfl (by dsimp only; omega), by first | rfl | exact fi rfl (by dsimp only; omega), by first | rfl | exact fi rfl (by dsimp only; omega), by first | rfl | exact fi rfl (by dsimp only; omega), by first | rfl | exact fi rfl (by dsimp only; omega), by first | rfl | exact fi rfl (by dsimp only; omega), trivial⟩ ?_⟩ <;> (rw [Auction.counts_take (by omega), Auction.step_yes ⟨⟨by omega, by omega, by omega⟩, (by first | exact Auction.fresh_of (by assumption) | assumption), (by first | (rw [Auction.has_in (by omega)]; omega) | (rw [Auction.has_out (by omega)]; omega))⟩, Auction.bdc_append, Auction.bdc_one, ← Auction.byc_set _ _ (by omega) (by omega)]; all_goals (simp; try rfl))) | (refine ⟨(k + 1, .slice Av (Auction.counts (l.take k) fs r fl).length cv), by dsimp only; omega, by dsimp only; omega, (H215.drop (List.Sublist.cons _ (List.Sublist.refl _))).weak ⟨by first | rfl | exact fi rfl (by dsimp only; omega), by first | rfl | exact fi rfl (by dsimp only; omega), by first | rfl | exact fi rfl (by dsimp only; omega), by first | rfl | exact fi rfl (by dsimp only; omega), by first | rfl | exact fi rfl (by dsimp only; omega), by first | rfl | exact fi rfl (by dsimp only; omega), by first | rfl | exact fi rfl (by dsimp only; omega), by first | rfl | exact fi rfl (by dsimp only; omega), by first | rfl | exact fi rfl (by dsimp only; omega), trivial⟩ ?_⟩ <;> (rw [Auction.counts_take (by omega), Auction.step_no (by rintro ⟨⟨g1, g2, g3⟩, g4, g5⟩; first | omega | exact Auction.stale_of (by assumption) g4 | (rw [Auction.has_in (by omega)] at g5; omega) | (rw [Auction.has_out (by omega)] at g5; omega))]; try rfl))
                      · first
                        | fail
                        | skip
                          clear H193; intro H216
                          try simp only [decide_eq_true_eq, decide_eq_false_iff_not, Bool.not_eq_true', Bool.not_eq_false', Bool.and_eq_true, Bool.not_eq_true, Bool.not_eq_false] at hg194
                          refine qskip rfl rfl rfl H216 ?_
                          clear H216; intro a217 H217
                          refine qskip rfl rfl rfl H217 ?_
                          clear H217; intro a218 H218
                          refine qskip rfl rfl rfl H218 ?_
                          clear H218; intro a219 H219
                          refine qplain (y_pick_f rfl rfl rfl) rfl rfl rfl H219 ?_
                          clear H219; intro a220 H220
                          refine qplain (y_pick_f rfl rfl rfl) rfl rfl rfl H220 ?_
                          clear H220; intro a221 H221
                          refine qfin H221 ?_
                          clear H221; intro wx222 H222
                          refine then_n ?_
                          refine cnd_f H222 rfl ?_
                          refine wp_skip ?_
                          refine inb_n ?_
                          refine then_n ?_
                          refine reg ?_
                          refine plain (y_add rfl rfl rfl (by first | exact w64 (by omega) (by omega) | rfl)) rfl rfl rfl H222 ?_
                          clear H222; intro a224 H224
                          refine plain (y_move rfl rfl) rfl rfl rfl H224 ?_
                          clear H224; intro a225 H225
                          refine fin ?_
                          refine then_n ?_
                          first | (have hz := isYes; refine ⟨(k + 1, _), by dsimp only; omega, by dsimp only; omega, (H225.drop (List.Sublist.cons _ (List.Sublist.cons _ (List.Sublist.refl _)))).weak ⟨by first | rfl | exact fi rfl (by dsimp only; omega), by first | rfl | exact fi rfl (by dsimp only; omega), by first | rfl | exact fi rfl (by dsimp only; omega), by first | rfl | exact fi rfl (by dsimp only; omega), by first | rfl | exact fi rfl (by dsimp only; omega), by first | rfl | exact fi rfl (by dsimp only; omega), by first | rfl | exact fi rfl (by dsimp only; omega), by first | rfl | exact fi rfl (by dsimp only; omega), by first | rfl | exact fi rfl (by dsimp only; omega), trivial⟩ ?_⟩ <;> (rw [Auction.counts_take (by omega), Auction.step_yes ⟨⟨by omega, by omega, by omega⟩, (by first | exact Auction.fresh_of (by assumption) | assumption), (by first | (rw [Auction.has_in (by omega)]; omega) | (rw [Auction.has_out (by omega)]; omega))⟩, Auction.bdc_append, Auction.bdc_one, ← Auction.byc_set _ _ (by omega) (by omega)]; all_goals (simp; try rfl))) | (refine ⟨(k + 1, .slice Av (Auction.counts (l.take k) fs r fl).length cv), by dsimp only; omega, by dsimp only; omega, (H225.drop (List.Sublist.cons _ (List.Sublist.refl _))).weak ⟨by first | rfl | exact fi rfl (by dsimp only; omega), by first | rfl | exact fi rfl (by dsimp only; omega), by first | rfl | exact fi rfl (by dsimp only; omega), by first | rfl | exact fi rfl (by dsimp only; omega), by first | rfl | exact fi rfl (by dsimp only; omega), by first | rfl | exact fi rfl (by dsimp only; omega), by first | rfl | exact fi rfl (by dsimp only; omega), by first | rfl | exact fi rfl (by dsimp only; omega), by first | rfl | exact fi rfl (by dsimp only; omega), trivial⟩ ?_⟩ <;> (rw [Auction.counts_take (by omega), Auction.step_no (by rintro ⟨⟨g1, g2, g3⟩, g4, g5⟩; first | omega | exact Auction.stale_of (by assumption) g4 | (rw [Auction.has_in (by omega)] at g5; omega) | (rw [Auction.has_out (by omega)] at g5; omega))]; try rfl))
  · skip
    try simp only [decide_eq_true_eq, decide_eq_false_iff_not, Bool.not_eq_true', Bool.not_eq_false', Bool.and_eq_true, Bool.not_eq_true, Bool.not_eq_false] at hc9
    refine wp_exit ?_
    refine then_x ?_
    refine then_x ?_
    refine inb_hit ?_
    refine then_n ?_
    refine wp_seq ?_
    refine reg ?_
    refine plain (y_move rfl rfl) rfl rfl rfl H8 ?_
    clear H8; intro a226 H226
    refine plain (y_assign rfl rfl) rfl rfl rfl H226 ?_
    clear H226; intro a227 H227
    refine fin ?_
    refine then_n ?_
    refine wp_ret ?_
    -- return 1
    refine ret1 rfl H227 rfl ?_
    refine ⟨_, _, rfl, ?_, H227.sep.sub (List.Sublist.cons_cons _ (List.nil_sublist _))⟩
    rw [List.take_of_length_le (by omega)]

end Go.Proofs.YtaeahloenahelaaDoor.A_Cnt

set_option linter.unusedVariables false
set_option linter.unusedSimpArgs false
namespace Go.Proofs.YtaeahloenahelaaDoor.A_Bst
open Go.Sx Go.RowKit Go.Proofs.YtaeahloenahelaaDoor.A_Block Go.Proofs.YtaeahloenahelaaDoor.A_Sum Go.Proofs.YtaeahloenahelaaDoor.A_Ref Go.Proofs.YtaeahloenahelaaDoor.A_RSum Go.Proofs.YtaeahloenahelaaDoor.A_Leaf Go.Proofs.YtaeahloenahelaaDoor.A_Num Go.Proofs.YtaeahloenahelaaDoor.A_Key Go.Proofs.YtaeahloenahelaaDoor.A_Ref Go.Proofs.YtaeahloenahelaaDoor.A_RSum Go.Proofs.YtaeahloenahelaaDoor.A_Tag Go.Proofs.YtaeahloenahelaaDoor.A_Lay Go.Proofs.YtaeahloenahelaaDoor.A_Eq Go.Proofs.YtaeahloenahelaaDoor.A_Ref0 Go.Proofs.YtaeahloenahelaaDoor.A_Sign Go.Proofs.YtaeahloenahelaaDoor.A_RefB

theorem z_agg30 : aggB Tryd.prog 30 = some true := by kernel_rfl
theorem z_size30 : sizeB Tryd.prog 30 = some 36 := by kernel_rfl
theorem q_ld_c4b32_0_36 {a0 a1 a2 a3 : Value} {t4 : List UInt8} (h4 : t4.length = 32) : ((a0 :: a1 :: a2 :: a3 :: t4.map u8).drop 0).take 36 = a0 :: a1 :: a2 :: a3 :: t4.map u8 := (ld_a (len_c (n := 35) (len_c (n := 34) (len_c (n := 33) (len_c (n := 32) (len_e (k := 32) h4))))))
theorem q_len_c4b32 {a0 a1 a2 a3 : Value} {t4 : List UInt8} (h4 : t4.length = 32) : (a0 :: a1 :: a2 :: a3 :: t4.map u8).length = 36 := (len_c (n := 35) (len_c (n := 34) (len_c (n := 33) (len_c (n := 32) (len_e (k := 32) h4)))))
theorem z_call68 : callB Tryd.prog 68 = true := by kernel_rfl
theorem z_call69 : callB Tryd.prog 69 = true := by kernel_rfl
theorem z_zeroN28 : zeroL Tryd.prog 28 = some ((List.replicate 32 (0 : UInt8)).map u8) := by kernel_rfl
theorem z_size28 : sizeB Tryd.prog 28 = some 32 := by kernel_rfl
theorem q_one_b32 {t0 : List UInt8} : (t0.map u8).all (·.oneCell') = true := (one_u8 _)
theorem q_len_b32 {t0 : List UInt8} (h0 : t0.length = 32) : (t0.map u8).length = 32 := (len_e (k := 32) h0)
theorem q_spl_b32_0_b32 {t0 : List UInt8} {s0 : List UInt8} (h0 : t0.length = 32) (g0 : s0.length = 32) : spl (t0.map u8) 0 (s0.map u8) = s0.map u8 := (spl_a (z := 32) (len_e (k := 32) h0) (len_e (k := 32) g0))
theorem z_size5 : sizeB Tryd.prog 5 = some 1 := by kernel_rfl
theorem q_ld_b32_0_32 {t0 : List UInt8} (h0 : t0.length = 32) : ((t0.map u8).drop 0).take 32 = t0.map u8 := (ld_a (len_e (k := 32) h0))
theorem z_field30_2 : fieldB Tryd.prog 30 2 = some 2 := by kernel_rfl
theorem z_agg3 : aggB Tryd.prog 3 = some false := by kernel_rfl
theorem q_ix_c4b32_2 {a0 a1 a2 a3 : Value} {t4 : List UInt8} : (a0 :: a1 :: a2 :: a3 :: t4.map u8)[2]? = some a2 := (ix_c (o := 1) (ix_c (o := 0) ix_0))
theorem z_call48 : callB Tryd.prog 48 = true := by kernel_rfl
theorem z_call47 : callB Tryd.prog 47 = true := by kernel_rfl

set_option maxRecDepth 100000 in
set_option maxHeartbeats 1000000 in
theorem aname (b : Note.Bid) (wf : Note.Bid.Wf b) {w : World} (hG : Glob 0 Sha.K w) : Calls Tryd.prog 48 #[.agg (Note.Bid.cells b).toArray] w (Gives (str (Auction.name b)) [] w) := by
  have hwt := wf.tag
  have hwl := Note.wbid_len (b := b)
  have lz32 : (List.replicate 32 (0 : UInt8)).length = 32 := List.length_replicate
  have lz0 := wf.tag
  refine enterL (args := [.agg (Note.Bid.cells b).toArray]) Tryd.func48 rfl rfl (l := []) (Sep.refl _) ?_
  intro a0 H0
  refine wp_seq ?_
  refine reg ?_
  refine st_box rfl rfl (agg_cells _) rfl rfl rfl H0 ?_
  clear H0; intro b1 a1 wx1 H1
  refine plain (y_assign rfl rfl) rfl rfl rfl H1 ?_
  clear H1; intro a2 H2
  refine fin ?_
  refine then_n ?_
  refine wp_seq ?_
  refine reg ?_
  refine plain (y_loadAB rfl z_agg30 z_size30 rfl (by repeat (first | exact Mh | apply Mt)) (q_ld_c4b32_0_36 (by first | assumption | exact Sha.sum_length _)) (q_len_c4b32 (by first | assumption | exact Sha.sum_length _))) rfl rfl rfl H2 ?_
  clear H2; intro a3 H3
  refine st_callg rfl z_call68 rfl rfl rfl rfl H3 (nwbid b wf _) ?_
  clear H3; intro a4 wx4 H4
  refine plain (y_move rfl rfl) rfl rfl rfl H4 ?_
  clear H4; intro a5 H5
  refine plain (y_extract rfl rfl rfl) rfl rfl rfl H5 ?_
  clear H5; intro a6 H6
  refine plain (y_extract rfl rfl rfl) rfl rfl rfl H6 ?_
  clear H6; intro a7 H7
  refine plain (y_assign rfl rfl) rfl rfl rfl H7 ?_
  clear H7; intro a8 H8
  refine plain (y_assign rfl rfl) rfl rfl rfl H8 ?_
  clear H8; intro a9 H9
  refine fin ?_
  refine then_n ?_
  refine wp_seq ?_
  refine reg ?_
  refine plain (y_move rfl rfl) rfl rfl rfl H9 ?_
  clear H9; intro a10 H10
  refine st_callg rfl z_call69 rfl rfl rfl rfl H10 (dsum (Note.writeBid b).1 (by omega) (hG.frm H10.sep.frm (by simp))) ?_
  clear H10; intro a11 wx11 H11
  refine st_alloc rfl z_zeroN28 rfl rfl rfl H11 ?_
  clear H11; intro b12 a12 wx12 H12
  refine st_storeN rfl z_size28 rfl rfl (agg_cells _) (by repeat (first | exact Uh | apply Ut)) q_one_b32 (q_len_b32 (by first | assumption | exact Sha.sum_length _)) (q_len_b32 (by first | assumption | exact Sha.sum_length _)) (q_spl_b32_0_b32 (by first | assumption | exact Sha.sum_length _) (by first | assumption | exact Sha.sum_length _)) (by decide) rfl rfl H12 ?_
  clear H12; intro wx13 H13
  refine fin ?_
  refine then_n ?_
  refine wp_seq ?_
  refine reg ?_
  refine plain (y_slA_all rfl Tryd.underlying28 z_size5 (by decide) rfl) rfl rfl rfl H13 ?_
  clear H13; intro a14 H14
  refine plain (y_bstrN rfl Tryd.underlying118 Tryd.underlying5 Tryd.underlying9 rfl (rd_blk (by repeat (first | exact Mh | apply Mt)) 32 (q_ld_b32_0_32 (by first | assumption | exact Sha.sum_length _))) (Eq.symm (by first | assumption | exact Sha.sum_length _))) rfl rfl rfl H14 ?_
  clear H14; intro a15 H15
  refine plain (y_move rfl rfl) rfl rfl rfl H15 ?_
  clear H15; intro a16 H16
  refine plain (y_sadd rfl rfl rfl (by rw [Sha.sum_length]; omega)) rfl rfl rfl H16 ?_
  clear H16; intro a17 H17
  refine plain (y_assign rfl rfl) rfl rfl rfl H17 ?_
  clear H17; intro a18 H18
  refine fin ?_
  refine then_n ?_
  refine wp_ret ?_
  -- return 1
  refine ret1 rfl H18 rfl ?_
  exact ⟨_, [], rfl, ⟨rfl, rfl⟩, H18.sep.sub (List.nil_sublist _)⟩
set_option maxRecDepth 100000 in
set_option maxHeartbeats 1000000 in
theorem awin1 (a b : Note.Bid) (wa : Note.Bid.Wf a) (wb : Note.Bid.Wf b) {w : World} (hG : Glob 0 Sha.K w) : Calls Tryd.prog 47 #[.agg (Note.Bid.cells a).toArray, .agg (Note.Bid.cells b).toArray] w (Gives (.bool (Auction.ahead a b)) [] w) := by
  have hta := wa.tag
  have htb := wb.tag
  have lz32 : (List.replicate 32 (0 : UInt8)).length = 32 := List.length_replicate
  have lz0 := wa.tag
  have lz1 := wb.tag
  refine enterL (args := [.agg (Note.Bid.cells a).toArray, .agg (Note.Bid.cells b).toArray]) Tryd.func47 rfl rfl (l := []) (Sep.refl _) ?_
  intro a0 H0
  refine wp_seq ?_
  refine reg ?_
  refine st_box rfl rfl (agg_cells _) rfl rfl rfl H0 ?_
  clear H0; intro b1 a1 wx1 H1
  refine st_box rfl rfl (agg_cells _) rfl rfl rfl H1 ?_
  clear H1; intro b2 a2 wx2 H2
  refine plain (y_assign rfl rfl) rfl rfl rfl H2 ?_
  clear H2; intro a3 H3
  refine fin ?_
  refine then_n ?_
  refine wp_seq ?_
  refine qreg (by kernel_rfl) (by kernel_rfl) H3 ?_
  have F4 := H3.fr
  clear H3
  refine qplain (y_fieldB rfl z_field30_2 rfl (by first | (simp only [Nat.zero_add, Nat.add_zero, Nat.reduceAdd]; rfl) | rfl)) rfl rfl rfl F4 ?_
  clear F4; intro a5 H5
  refine qplain (y_loadB rfl z_agg3 rfl (by repeat (first | exact Mh | apply Mt)) q_ix_c4b32_2) rfl rfl rfl H5 ?_
  clear H5; intro a6 H6
  refine qplain (y_fieldB rfl z_field30_2 rfl (by first | (simp only [Nat.zero_add, Nat.add_zero, Nat.reduceAdd]; rfl) | rfl)) rfl rfl rfl H6 ?_
  clear H6; intro a7 H7
  refine qplain (y_loadB rfl z_agg3 rfl (by repeat (first | exact Mh | apply Mt)) q_ix_c4b32_2) rfl rfl rfl H7 ?_
  clear H7; intro a8 H8
  refine qplain (y_gtr rfl rfl rfl) rfl rfl rfl H8 ?_
  clear H8; intro a9 H9
  refine qplain (y_move rfl rfl) rfl rfl rfl H9 ?_
  clear H9; intro a10 H10
  refine qpart (d := 10) H10 rfl (fun hg11 => ?_) (fun hg11 => ?_)
  · first
    | fail
    | skip
      clear H10; intro H12
      try simp only [decide_eq_true_eq, decide_eq_false_iff_not, Bool.not_eq_true', Bool.not_eq_false', Bool.and_eq_true, Bool.not_eq_true, Bool.not_eq_false] at hg11
      refine qskip rfl rfl rfl H12 ?_
      clear H12; intro a13 H13
      refine qskip rfl rfl rfl H13 ?_
      clear H13; intro a14 H14
      refine qskip rfl rfl rfl H14 ?_
      clear H14; intro a15 H15
      refine qskip rfl rfl rfl H15 ?_
      clear H15; intro a16 H16
      refine qskip rfl rfl rfl H16 ?_
      clear H16; intro a17 H17
      refine qskip rfl rfl rfl H17 ?_
      clear H17; intro a18 H18
      refine qskip rfl rfl rfl H18 ?_
      clear H18; intro a19 H19
      refine qskip rfl rfl rfl H19 ?_
      clear H19; intro a20 H20
      refine qskip rfl rfl rfl H20 ?_
      clear H20; intro a21 H21
      refine qskip rfl rfl rfl H21 ?_
      clear H21; intro a22 H22
      refine qskip rfl rfl rfl H22 ?_
      clear H22; intro a23 H23
      refine qskip rfl rfl rfl H23 ?_
      clear H23; intro a24 H24
      refine qplain (y_pick_t rfl rfl rfl) rfl rfl rfl H24 ?_
      clear H24; intro a25 H25
      refine qplain (y_assign rfl rfl) rfl rfl rfl H25 ?_
      clear H25; intro a26 H26
      refine qfin H26 ?_
      clear H26; intro wx27 H27
      refine then_n ?_
      refine wp_ret ?_
      -- return 1
      refine ret1 rfl H27 rfl ?_
      refine ⟨_, [], rfl, ⟨?_, rfl⟩, H27.sep.sub (List.nil_sublist _)⟩
      clear H27
      exact congrArg Value.bool (by simp [Auction.ahead, *])
  · first
    | fail
    | skip
      clear H10; intro H28
      try simp only [decide_eq_true_eq, decide_eq_false_iff_not, Bool.not_eq_true', Bool.not_eq_false', Bool.and_eq_true, Bool.not_eq_true, Bool.not_eq_false] at hg11
      refine qplain (y_fieldB rfl z_field30_2 rfl (by first | (simp only [Nat.zero_add, Nat.add_zero, Nat.reduceAdd]; rfl) | rfl)) rfl rfl rfl H28 ?_
      clear H28; intro a29 H29
      refine qplain (y_loadB rfl z_agg3 rfl (by repeat (first | exact Mh | apply Mt)) q_ix_c4b32_2) rfl rfl rfl H29 ?_
      clear H29; intro a30 H30
      refine qplain (y_fieldB rfl z_field30_2 rfl (by first | (simp only [Nat.zero_add, Nat.add_zero, Nat.reduceAdd]; rfl) | rfl)) rfl rfl rfl H30 ?_
      clear H30; intro a31 H31
      refine qplain (y_loadB rfl z_agg3 rfl (by repeat (first | exact Mh | apply Mt)) q_ix_c4b32_2) rfl rfl rfl H31 ?_
      clear H31; intro a32 H32
      refine qplain (y_eql rfl rfl rfl) rfl rfl rfl H32 ?_
      clear H32; intro a33 H33
      refine qplain (y_move rfl rfl) rfl rfl rfl H33 ?_
      clear H33; intro a34 H34
      refine qpart (d := 16) H34 rfl (fun hg35 => ?_) (fun hg35 => ?_)
      · first
        | fail
        | skip
          clear H34; intro H36
          try simp only [decide_eq_true_eq, decide_eq_false_iff_not, Bool.not_eq_true', Bool.not_eq_false', Bool.and_eq_true, Bool.not_eq_true, Bool.not_eq_false] at hg35
          refine qplain (y_loadAB rfl z_agg30 z_size30 rfl (by repeat (first | exact Mh | apply Mt)) (q_ld_c4b32_0_36 (by assumption)) (q_len_c4b32 (by assumption))) rfl rfl rfl H36 ?_
          clear H36; intro a37 H37
          refine qcallg rfl z_call48 rfl rfl rfl rfl H37 (fun w hs => (aname a wa (hG.frm hs.frm (by simp)))) ?_
          clear H37; intro a38 H38
          refine qplain (y_loadAB rfl z_agg30 z_size30 rfl (by repeat (first | exact Mh | apply Mt)) (q_ld_c4b32_0_36 (by assumption)) (q_len_c4b32 (by assumption))) rfl rfl rfl H38 ?_
          clear H38; intro a39 H39
          refine qcallg rfl z_call48 rfl rfl rfl rfl H39 (fun w hs => (aname b wb (hG.frm hs.frm (by simp)))) ?_
          clear H39; intro a40 H40
          refine qplain (y_slss rfl rfl rfl) rfl rfl rfl H40 ?_
          clear H40; intro a41 H41
          refine qplain (y_pick_t rfl rfl rfl) rfl rfl rfl H41 ?_
          clear H41; intro a42 H42
          refine qplain (y_pick_f rfl rfl rfl) rfl rfl rfl H42 ?_
          clear H42; intro a43 H43
          refine qplain (y_assign rfl rfl) rfl rfl rfl H43 ?_
          clear H43; intro a44 H44
          refine qfin H44 ?_
          clear H44; intro wx45 H45
          refine then_n ?_
          refine wp_ret ?_
          -- return 2
          refine ret1 rfl H45 rfl ?_
          refine ⟨_, [], rfl, ⟨?_, rfl⟩, H45.sep.sub (List.nil_sublist _)⟩
          clear H45
          exact congrArg Value.bool (by simp [Auction.ahead, *])
      · first
        | fail
        | skip
          clear H34; intro H46
          try simp only [decide_eq_true_eq, decide_eq_false_iff_not, Bool.not_eq_true', Bool.not_eq_false', Bool.and_eq_true, Bool.not_eq_true, Bool.not_eq_false] at hg35
          refine qskip rfl rfl rfl H46 ?_
          clear H46; intro a47 H47
          refine qskip rfl rfl rfl H47 ?_
          clear H47; intro a48 H48
          refine qskip rfl rfl rfl H48 ?_
          clear H48; intro a49 H49
          refine qskip rfl rfl rfl H49 ?_
          clear H49; intro a50 H50
          refine qskip rfl rfl rfl H50 ?_
          clear H50; intro a51 H51
          refine qplain (y_pick_f rfl rfl rfl) rfl rfl rfl H51 ?_
          clear H51; intro a52 H52
          refine qplain (y_pick_f rfl rfl rfl) rfl rfl rfl H52 ?_
          clear H52; intro a53 H53
          refine qplain (y_assign rfl rfl) rfl rfl rfl H53 ?_
          clear H53; intro a54 H54
          refine qfin H54 ?_
          clear H54; intro wx55 H55
          refine then_n ?_
          refine wp_ret ?_
          -- return 3
          refine ret1 rfl H55 rfl ?_
          refine ⟨_, [], rfl, ⟨?_, rfl⟩, H55.sep.sub (List.nil_sublist _)⟩
          clear H55
          exact congrArg Value.bool (by simp [Auction.ahead, *])
set_option maxRecDepth 100000 in
set_option maxHeartbeats 1000000 in
theorem abest (l : List Note.Bid) (A : Option Addr) (m c : Nat) (hm : m = l.length) (hl : l.length ≤ 1000) {w : World} (hw : ∀ x ∈ l, Note.Bid.Wf x) (hA : Rd w A (Auction.bdc l)) (hG : Glob 0 Sha.K w) : Calls Tryd.prog 46 #[.slice A m c, .func (.func 47) #[] #[]] w (Gives (Auction.ptr l A l.length) [] w) := by
  subst hm
  have lz32 : (List.replicate 32 (0 : UInt8)).length = 32 := List.length_replicate
  refine enterL (args := [.slice A l.length c, .func (.func 47) #[] #[]]) Tryd.func46 rfl rfl (l := []) (Sep.refl _) ?_
  intro a0 H0
  refine wp_seq ?_
  refine reg ?_
  refine plain (y_assign rfl rfl) rfl rfl rfl H0 ?_
  clear H0; intro a1 H1
  refine fin ?_
  refine then_n ?_
  refine wp_seq ?_
  refine reg ?_
  refine plain (y_assign rfl rfl) rfl rfl rfl H1 ?_
  clear H1; intro a2 H2
  refine fin ?_
  refine then_n ?_
  refine wp_seq ?_
  refine wp_seq ?_
  refine reg ?_
  refine plain (y_move rfl rfl) rfl rfl rfl H2 ?_
  clear H2; intro a3 H3
  refine plain (y_len rfl Tryd.underlying22 rfl) rfl rfl rfl H3 ?_
  clear H3; intro a4 H4
  refine plain (y_move rfl rfl) rfl rfl rfl H4 ?_
  clear H4; intro a5 H5
  refine fin ?_
  refine then_n ?_
  refine wp_block ?_
  refine loop (ι := Nat) (fun k => [(0, .slice A l.length c), (1, .func (.func 47) #[] #[]), (5, Auction.ptr l A k), (8, .int .i64 (l.length : Int)), (9, .int .i64 (k : Int))]) (fun k => []) (fun k => k ≤ l.length) (fun k => l.length - k) (0) (Nat.zero_le _) (H5.weak ⟨rfl, rfl, rfl, rfl, rfl, trivial⟩ rfl) ?_
  clear H5; intro k a6 wx6 hok6 H6
  have hok := hok6
  refine wp_seq ?_
  refine reg ?_
  refine plain (y_lss rfl rfl rfl) rfl rfl rfl H6 ?_
  clear H6; intro a7 H7
  refine fin ?_
  refine then_n ?_
  refine wp_seq ?_
  refine cnd H7 rfl (fun hc8 => ?_) (fun hc8 => ?_) -- cond 1
  · skip
    try simp only [decide_eq_true_eq, decide_eq_false_iff_not, Bool.not_eq_true', Bool.not_eq_false', Bool.and_eq_true, Bool.not_eq_true, Bool.not_eq_false] at hc8
    refine wp_skip ?_
    refine then_n ?_
    refine wp_seq ?_
    refine wp_block ?_
    refine wp_seq ?_
    refine reg ?_
    refine plain (y_move rfl rfl) rfl rfl rfl H7 ?_
    clear H7; intro a9 H9
    refine plain (y_assign rfl rfl) rfl rfl rfl H9 ?_
    clear H9; intro a10 H10
    refine fin ?_
    refine then_n ?_
    refine wp_seq ?_
    have hkl : k < l.length := by omega
    have hAd := Auction.rd_some hA hw hkl
    have hwk := Auction.atD hw hkl
    have hbl : Auction.best l k < l.length := by (rcases Nat.eq_zero_or_pos k with e | e; (subst e; exact hkl); (have := Auction.best_lt l k e; omega))
    have hwb := Auction.atD hw hbl
    refine qreg (by kernel_rfl) (by kernel_rfl) H10 ?_
    have F11 := H10.fr
    clear H10
    refine qplain (y_move rfl rfl) rfl rfl rfl F11 ?_
    clear F11; intro a12 H12
    refine qplain (Auction.y_ptrNil rfl Tryd.underlying92 rfl rfl (fun _ => hAd)) rfl rfl rfl H12 ?_
    clear H12; intro a13 H13
    refine qplain (y_move rfl rfl) rfl rfl rfl H13 ?_
    clear H13; intro a14 H14
    refine qpart (d := 14) H14 rfl (fun hg15 => ?_) (fun hg15 => ?_)
    · first
      | fail
      | skip
        clear H14; intro H16
        try simp only [decide_eq_true_eq, decide_eq_false_iff_not, Bool.not_eq_true', Bool.not_eq_false', Bool.and_eq_true, Bool.not_eq_true, Bool.not_eq_false] at hg15
        have isYes := True.intro
        refine qskip rfl rfl rfl H16 ?_
        clear H16; intro a17 H17
        refine qskip rfl rfl rfl H17 ?_
        clear H17; intro a18 H18
        refine qskip rfl rfl rfl H18 ?_
        clear H18; intro a19 H19
        refine qskip rfl rfl rfl H19 ?_
        clear H19; intro a20 H20
        refine qskip rfl rfl rfl H20 ?_
        clear H20; intro a21 H21
        refine qskip rfl rfl rfl H21 ?_
        clear H21; intro a22 H22
        refine qskip rfl rfl rfl H22 ?_
        clear H22; intro a23 H23
        refine qskip rfl rfl rfl H23 ?_
        clear H23; intro a24 H24
        refine qskip rfl rfl rfl H24 ?_
        clear H24; intro a25 H25
        refine qplain (y_pick_t rfl rfl rfl) rfl rfl rfl H25 ?_
        clear H25; intro a26 H26
        refine qfin H26 ?_
        clear H26; intro wx27 H27
        refine then_n ?_
        refine cnd_t H27 rfl ?_
        refine reg ?_
        refine plain (y_move rfl rfl) rfl rfl rfl H27 ?_
        clear H27; intro a29 H29
        refine plain (y_move rfl rfl) rfl rfl rfl H29 ?_
        clear H29; intro a30 H30
        refine plain (y_ixR rfl Tryd.underlying22 z_size30 rfl rfl (by omega) (by omega) (rd_old hA (by simp)) (by rw [Auction.bdc_len hw]; omega)) rfl rfl rfl H30 ?_
        clear H30; intro a31 H31
        refine plain (y_assign rfl rfl) rfl rfl rfl H31 ?_
        clear H31; intro a32 H32
        refine fin ?_
        refine inb_n ?_
        refine then_n ?_
        refine reg ?_
        refine plain (y_add rfl rfl rfl (by first | exact w64 (by omega) (by omega) | rfl)) rfl rfl rfl H32 ?_
        clear H32; intro a33 H33
        refine plain (y_move rfl rfl) rfl rfl rfl H33 ?_
        clear H33; intro a34 H34
        refine fin ?_
        refine then_n ?_
        first | (have hz := isYes; refine ⟨k + 1, by omega, by omega, H34.weak ⟨rfl, rfl, fv rfl (Auction.ptr_new A (by first | (left; assumption) | (right; assumption))), rfl, fi rfl (by omega), trivial⟩ rfl⟩) | (have hz := isNo; refine ⟨k + 1, by omega, by omega, H34.weak ⟨rfl, rfl, fv rfl (Auction.ptr_old A (by assumption) (by simp_all)), rfl, fi rfl (by omega), trivial⟩ rfl⟩)
    · first
      | fail
      | skip
        clear H14; intro H35
        try simp only [decide_eq_true_eq, decide_eq_false_iff_not, Bool.not_eq_true', Bool.not_eq_false', Bool.and_eq_true, Bool.not_eq_true, Bool.not_eq_false] at hg15
        replace H35 := H35.know (d := 5) rfl (Auction.ptr_pos hg15)
        refine qplain (y_move rfl rfl) rfl rfl rfl H35 ?_
        clear H35; intro a36 H36
        refine qplain (y_move rfl rfl) rfl rfl rfl H36 ?_
        clear H36; intro a37 H37
        refine qplain (y_move rfl rfl) rfl rfl rfl H37 ?_
        clear H37; intro a38 H38
        refine qplain (y_ixR rfl Tryd.underlying22 z_size30 rfl rfl (by omega) (by omega) (rd_old hA (by simp)) (by rw [Auction.bdc_len hw]; omega)) rfl rfl rfl H38 ?_
        clear H38; intro a39 H39
        refine qplain (y_loadAS rfl z_agg30 z_size30 rfl (rd_old hA (by simp)) (show _ = Note.Bid.cells (l.getD k Note.Bid.zero) from Auction.bdc_take hw k (by omega)) (Auction.bid_len hwk.tag) (by decide)) rfl rfl rfl H39 ?_
        clear H39; intro a40 H40
        refine qplain (y_move rfl rfl) rfl rfl rfl H40 ?_
        clear H40; intro a41 H41
        refine qplain (Auction.y_nilCk rfl rfl hAd) rfl rfl rfl H41 ?_
        clear H41; intro a42 H42
        refine qplain (y_loadAS rfl z_agg30 z_size30 rfl (rd_old hA (by simp)) (show _ = Note.Bid.cells (l.getD (Auction.best l k) Note.Bid.zero) from Auction.bdc_take hw _ hbl) (Auction.bid_len hwb.tag) (by decide)) rfl rfl rfl H42 ?_
        clear H42; intro a43 H43
        refine qcallv (enters_callv (all := [.agg (Note.Bid.cells (l.getD k Note.Bid.zero)).toArray, .agg (Note.Bid.cells (l.getD (Auction.best l k) Note.Bid.zero)).toArray]) rfl rfl z_call47 rfl rfl) rfl rfl rfl H43 (fun w hs => (awin1 (l.getD k Note.Bid.zero) (l.getD (Auction.best l k) Note.Bid.zero) hwk hwb (hG.frm hs.frm (by simp)))) ?_
        clear H43; intro a44 H44
        refine qplain (y_pick_f rfl rfl rfl) rfl rfl rfl H44 ?_
        clear H44; intro a45 H45
        refine qfin H45 ?_
        clear H45; intro wx46 H46
        refine then_n ?_
        refine cnd H46 rfl (fun hc47 => ?_) (fun hc47 => ?_) -- cond 3
        · skip
          try simp only [decide_eq_true_eq, decide_eq_false_iff_not, Bool.not_eq_true', Bool.not_eq_false', Bool.and_eq_true, Bool.not_eq_true, Bool.not_eq_false] at hc47
          have isYes := True.intro
          refine reg ?_
          refine plain (y_move rfl rfl) rfl rfl rfl H46 ?_
          clear H46; intro a48 H48
          refine plain (y_move rfl rfl) rfl rfl rfl H48 ?_
          clear H48; intro a49 H49
          refine plain (y_ixR rfl Tryd.underlying22 z_size30 rfl rfl (by omega) (by omega) (rd_old hA (by simp)) (by rw [Auction.bdc_len hw]; omega)) rfl rfl rfl H49 ?_
          clear H49; intro a50 H50
          refine plain (y_assign rfl rfl) rfl rfl rfl H50 ?_
          clear H50; intro a51 H51
          refine fin ?_
          refine inb_n ?_
          refine then_n ?_
          refine reg ?_
          refine plain (y_add rfl rfl rfl (by first | exact w64 (by omega) (by omega) | rfl)) rfl rfl rfl H51 ?_
          clear H51; intro a52 H52
          refine plain (y_move rfl rfl) rfl rfl rfl H52 ?_
          clear H52; intro a53 H53
          refine fin ?_
          refine then_n ?_
          first | (have hz := isYes; refine ⟨k + 1, by omega, by omega, H53.weak ⟨rfl, rfl, fv rfl (Auction.ptr_new A (by first | (left; assumption) | (right; assumption))), rfl, fi rfl (by omega), trivial⟩ rfl⟩) | (have hz := isNo; refine ⟨k + 1, by omega, by omega, H53.weak ⟨rfl, rfl, fv rfl (Auction.ptr_old A (by assumption) (by simp_all)), rfl, fi rfl (by omega), trivial⟩ rfl⟩)
        · skip
          try simp only [decide_eq_true_eq, decide_eq_false_iff_not, Bool.not_eq_true', Bool.not_eq_false', Bool.and_eq_true, Bool.not_eq_true, Bool.not_eq_false] at hc47
          have isNo := True.intro
          refine wp_skip ?_
          refine inb_n ?_
          refine then_n ?_
          refine reg ?_
          refine plain (y_add rfl rfl rfl (by first | exact w64 (by omega) (by omega) | rfl)) rfl rfl rfl H46 ?_
          clear H46; intro a54 H54
          refine plain (y_move rfl rfl) rfl rfl rfl H54 ?_
          clear H54; intro a55 H55
          refine fin ?_
          refine then_n ?_
          first | (have hz := isYes; refine ⟨k + 1, by omega, by omega, H55.weak ⟨rfl, rfl, fv rfl (Auction.ptr_new A (by first | (left; assumption) | (right; assumption))), rfl, fi rfl (by omega), trivial⟩ rfl⟩) | (have hz := isNo; refine ⟨k + 1, by omega, by omega, H55.weak ⟨rfl, rfl, fv rfl (Auction.ptr_old A (by assumption) (by simp_all)), rfl, fi rfl (by omega), trivial⟩ rfl⟩)
  · skip
    try simp only [decide_eq_true_eq, decide_eq_false_iff_not, Bool.not_eq_true', Bool.not_eq_false', Bool.and_eq_true, Bool.not_eq_true, Bool.not_eq_false] at hc8
    refine wp_exit ?_
    refine then_x ?_
    refine then_x ?_
    refine inb_hit ?_
    refine then_n ?_
    refine wp_seq ?_
    refine reg ?_
    refine plain (y_move rfl rfl) rfl rfl rfl H7 ?_
    clear H7; intro a56 H56
    refine plain (y_assign rfl rfl) rfl rfl rfl H56 ?_
    clear H56; intro a57 H57
    refine fin ?_
    refine then_n ?_
    refine wp_ret ?_
    -- return 1
    refine ret1 rfl H57 rfl ?_
    refine ⟨_, [], rfl, ⟨?_, rfl⟩, H57.sep.sub (List.nil_sublist _)⟩
    rw [show l.length = k by omega]

end Go.Proofs.YtaeahloenahelaaDoor.A_Bst

set_option linter.unusedVariables false
set_option linter.unusedSimpArgs false
namespace Go.Proofs.YtaeahloenahelaaDoor.A_Win
open Go.Sx Go.RowKit Go.Proofs.YtaeahloenahelaaDoor.A_Block Go.Proofs.YtaeahloenahelaaDoor.A_Sum Go.Proofs.YtaeahloenahelaaDoor.A_Ref Go.Proofs.YtaeahloenahelaaDoor.A_RSum Go.Proofs.YtaeahloenahelaaDoor.A_Leaf Go.Proofs.YtaeahloenahelaaDoor.A_Num Go.Proofs.YtaeahloenahelaaDoor.A_Key Go.Proofs.YtaeahloenahelaaDoor.A_Ref Go.Proofs.YtaeahloenahelaaDoor.A_RSum Go.Proofs.YtaeahloenahelaaDoor.A_Tag Go.Proofs.YtaeahloenahelaaDoor.A_Lay Go.Proofs.YtaeahloenahelaaDoor.A_Eq Go.Proofs.YtaeahloenahelaaDoor.A_Ref0 Go.Proofs.YtaeahloenahelaaDoor.A_Sign Go.Proofs.YtaeahloenahelaaDoor.A_RefB Go.Proofs.YtaeahloenahelaaDoor.A_Cnt Go.Proofs.YtaeahloenahelaaDoor.A_Bst

theorem z_zeroN32 : zeroL Tryd.prog 32 = some ((.int .i64 0 :: (.int .i64 0 :: (.int .i64 0 :: (.int .i64 0 :: ((List.replicate 32 (0 : UInt8)).map u8 ++ (.int .i64 0 :: []))))))) := by kernel_rfl
theorem z_call45 : callB Tryd.prog 45 = true := by kernel_rfl
theorem z_call46 : callB Tryd.prog 46 = true := by kernel_rfl
theorem z_places32 : placesB Tryd.prog 32 = some [(0, 36), (36, 1)] := by kernel_rfl
theorem z_size32 : sizeB Tryd.prog 32 = some 37 := by kernel_rfl
theorem q_one_c4b32c1 {a0 a1 a2 a3 a5 : Value} {t4 : List UInt8} (o0 : a0.oneCell' = true) (o1 : a1.oneCell' = true) (o2 : a2.oneCell' = true) (o3 : a3.oneCell' = true) (o5 : a5.oneCell' = true) : (a0 :: a1 :: a2 :: a3 :: (t4.map u8 ++ (a5 :: []))).all (·.oneCell') = true := (one_c o0 (one_c o1 (one_c o2 (one_c o3 (one_b (one_c o5 one_n))))))
theorem q_len_c4b32c1 {a0 a1 a2 a3 a5 : Value} {t4 : List UInt8} (h4 : t4.length = 32) : (a0 :: a1 :: a2 :: a3 :: (t4.map u8 ++ (a5 :: []))).length = 37 := (len_c (n := 36) (len_c (n := 35) (len_c (n := 34) (len_c (n := 33) (len_b (k := 32) (n := 1) h4 (len_c (n := 0) len_n))))))
theorem q_spl_c4b32c1_0_c4b32c1 {a0 a1 a2 a3 a5 : Value} {t4 : List UInt8} {b0 b1 b2 b3 b5 : Value} {s4 : List UInt8} (h4 : t4.length = 32) (g4 : s4.length = 32) : spl (a0 :: a1 :: a2 :: a3 :: (t4.map u8 ++ (a5 :: []))) 0 (b0 :: b1 :: b2 :: b3 :: (s4.map u8 ++ (b5 :: []))) = b0 :: b1 :: b2 :: b3 :: (s4.map u8 ++ (b5 :: [])) := (spl_a (z := 37) (len_c (n := 36) (len_c (n := 35) (len_c (n := 34) (len_c (n := 33) (len_b (k := 32) (n := 1) h4 (len_c (n := 0) len_n)))))) (len_c (n := 36) (len_c (n := 35) (len_c (n := 34) (len_c (n := 33) (len_b (k := 32) (n := 1) g4 (len_c (n := 0) len_n)))))))
theorem z_agg32 : aggB Tryd.prog 32 = some true := by kernel_rfl
theorem z_agg30 : aggB Tryd.prog 30 = some true := by kernel_rfl
theorem z_size30 : sizeB Tryd.prog 30 = some 36 := by kernel_rfl
theorem q_len_c4b32 {a0 a1 a2 a3 : Value} {t4 : List UInt8} (h4 : t4.length = 32) : (a0 :: a1 :: a2 :: a3 :: t4.map u8).length = 36 := (len_c (n := 35) (len_c (n := 34) (len_c (n := 33) (len_c (n := 32) (len_e (k := 32) h4)))))
theorem q_spl_c4b32c1_0_c4b32 {a0 a1 a2 a3 a5 : Value} {t4 : List UInt8} {b0 b1 b2 b3 : Value} {s4 : List UInt8} (h4 : t4.length = 32) (g4 : s4.length = 32) : spl (a0 :: a1 :: a2 :: a3 :: (t4.map u8 ++ (a5 :: []))) 0 (b0 :: b1 :: b2 :: b3 :: s4.map u8) = b0 :: b1 :: b2 :: b3 :: (s4.map u8 ++ (a5 :: [])) := (spl_m (z := 36) (len_c (n := 35) (len_c (n := 34) (len_c (n := 33) (len_c (n := 32) (len_e (k := 32) g4))))) (dr_c (o := 35) (dr_c (o := 34) (dr_c (o := 33) (dr_c (o := 32) (dr_b (k := 32) (o := 0) h4 rfl dr_0))))) (app_c (app_c (app_c (app_c app_e)))))
theorem q_spl_c4b32c1_36_c1 {a0 a1 a2 a3 a5 : Value} {t4 : List UInt8} {b0 : Value} (h4 : t4.length = 32) : spl (a0 :: a1 :: a2 :: a3 :: (t4.map u8 ++ (a5 :: []))) 36 (b0 :: []) = a0 :: a1 :: a2 :: a3 :: (t4.map u8 ++ (b0 :: [])) := (spl_c (o := 35) (spl_c (o := 34) (spl_c (o := 33) (spl_c (o := 32) (spl_b (k := 32) (o := 0) h4 rfl spl_0)))))
theorem z_zeroN30 : zeroL Tryd.prog 30 = some ((.int .i64 0 :: (.int .i64 0 :: (.int .i64 0 :: (.int .i64 0 :: (List.replicate 32 (0 : UInt8)).map u8))))) := by kernel_rfl
theorem q_one_c4b32 {a0 a1 a2 a3 : Value} {t4 : List UInt8} (o0 : a0.oneCell' = true) (o1 : a1.oneCell' = true) (o2 : a2.oneCell' = true) (o3 : a3.oneCell' = true) : (a0 :: a1 :: a2 :: a3 :: t4.map u8).all (·.oneCell') = true := (one_c o0 (one_c o1 (one_c o2 (one_c o3 (one_u8 _)))))
theorem q_spl_c4b32_0_c4b32 {a0 a1 a2 a3 : Value} {t4 : List UInt8} {b0 b1 b2 b3 : Value} {s4 : List UInt8} (h4 : t4.length = 32) (g4 : s4.length = 32) : spl (a0 :: a1 :: a2 :: a3 :: t4.map u8) 0 (b0 :: b1 :: b2 :: b3 :: s4.map u8) = b0 :: b1 :: b2 :: b3 :: s4.map u8 := (spl_a (z := 36) (len_c (n := 35) (len_c (n := 34) (len_c (n := 33) (len_c (n := 32) (len_e (k := 32) h4))))) (len_c (n := 35) (len_c (n := 34) (len_c (n := 33) (len_c (n := 32) (len_e (k := 32) g4))))))
theorem z_field30_1 : fieldB Tryd.prog 30 1 = some 1 := by kernel_rfl
theorem z_agg3 : aggB Tryd.prog 3 = some false := by kernel_rfl
theorem q_ix_c4b32_1 {a0 a1 a2 a3 : Value} {t4 : List UInt8} : (a0 :: a1 :: a2 :: a3 :: t4.map u8)[1]? = some a1 := (ix_c (o := 0) ix_0)
theorem z_field32_0 : fieldB Tryd.prog 32 0 = some 0 := by kernel_rfl
theorem q_ix_c4b32c1_1 {a0 a1 a2 a3 a5 : Value} {t4 : List UInt8} : (a0 :: a1 :: a2 :: a3 :: (t4.map u8 ++ (a5 :: [])))[1]? = some a1 := (ix_c (o := 0) ix_0)
theorem z_field32_1 : fieldB Tryd.prog 32 1 = some 36 := by kernel_rfl
theorem q_ix_c4b32c1_36 {a0 a1 a2 a3 a5 : Value} {t4 : List UInt8} (h4 : t4.length = 32) : (a0 :: a1 :: a2 :: a3 :: (t4.map u8 ++ (a5 :: [])))[36]? = some a5 := (ix_c (o := 35) (ix_c (o := 34) (ix_c (o := 33) (ix_c (o := 32) (ix_b (k := 32) (o := 0) h4 rfl ix_0)))))
theorem z_field30_2 : fieldB Tryd.prog 30 2 = some 2 := by kernel_rfl
theorem q_ix_c4b32_2 {a0 a1 a2 a3 : Value} {t4 : List UInt8} : (a0 :: a1 :: a2 :: a3 :: t4.map u8)[2]? = some a2 := (ix_c (o := 1) (ix_c (o := 0) ix_0))
theorem z_size3 : sizeB Tryd.prog 3 = some 1 := by kernel_rfl
theorem q_set_c4b32c1_36 {a0 a1 a2 a3 a5 : Value} {t4 : List UInt8} {v : Value} (h4 : t4.length = 32) : (a0 :: a1 :: a2 :: a3 :: (t4.map u8 ++ (a5 :: []))).set 36 v = a0 :: a1 :: a2 :: a3 :: (t4.map u8 ++ (v :: [])) := (set_c (o := 35) (set_c (o := 34) (set_c (o := 33) (set_c (o := 32) (set_b (k := 32) (o := 0) h4 rfl set_0)))))
theorem q_ld_c4b32c1_0_37 {a0 a1 a2 a3 a5 : Value} {t4 : List UInt8} (h4 : t4.length = 32) : ((a0 :: a1 :: a2 :: a3 :: (t4.map u8 ++ (a5 :: []))).drop 0).take 37 = a0 :: a1 :: a2 :: a3 :: (t4.map u8 ++ (a5 :: [])) := (ld_a (len_c (n := 36) (len_c (n := 35) (len_c (n := 34) (len_c (n := 33) (len_b (k := 32) (n := 1) h4 (len_c (n := 0) len_n)))))))

set_option maxRecDepth 100000 in
set_option maxHeartbeats 2000000 in
theorem awin (l : List Note.Bid) (fs : List Int) (r fl : Int) (A B : Option Addr) (m n c e : Nat) (hm : m = l.length) (hn : n = fs.length) (hl : l.length ≤ 1000) (hfl : fs.length ≤ 9223372036854775807) {w : World} (hw : ∀ x ∈ l, Note.Bid.Wf x) (hA : Rd w A (Auction.bdc l)) (hB : Rd w B (fs.map i64)) (hG : Glob 0 Sha.K w) : Calls Tryd.prog 13 #[.slice A m c, .slice B n e, .int .i64 r, .int .i64 fl] w (Gives (.tuple #[.agg (Auction.Win.cells (Auction.win l fs r fl).1).toArray, .bool (Auction.win l fs r fl).2]) [] w) := by
  subst hm
  subst hn
  have hcl := Auction.counts_len fs r fl l
  have hcw := Auction.counts_wf hw fs r fl
  have hfi := Auction.fine_counts fs r fl l
  have lz32 : (List.replicate 32 (0 : UInt8)).length = 32 := List.length_replicate
  refine enterL (args := [.slice A l.length c, .slice B fs.length e, .int .i64 r, .int .i64 fl]) Tryd.func13 rfl rfl (l := []) (Sep.refl _) ?_
  intro a0 H0
  refine wp_seq ?_
  refine reg ?_
  refine st_alloc rfl z_zeroN32 rfl rfl rfl H0 ?_
  clear H0; intro b1 a1 wx1 H1
  refine plain (y_assign rfl rfl) rfl rfl rfl H1 ?_
  clear H1; intro a2 H2
  refine fin ?_
  refine then_n ?_
  refine wp_seq ?_
  refine reg ?_
  refine plain (y_move rfl rfl) rfl rfl rfl H2 ?_
  clear H2; intro a3 H3
  refine plain (y_move rfl rfl) rfl rfl rfl H3 ?_
  clear H3; intro a4 H4
  refine plain (y_move rfl rfl) rfl rfl rfl H4 ?_
  clear H4; intro a5 H5
  refine plain (y_move rfl rfl) rfl rfl rfl H5 ?_
  clear H5; intro a6 H6
  refine st_call rfl z_call45 rfl rfl rfl rfl H6 (acount l fs r fl A B _ _ c e rfl rfl hl hfl hw (Rd.frm hA H6.sep.frm (by simp)) (Rd.frm hB H6.sep.frm (by simp)) (hG.frm H6.sep.frm (by simp))) ?_
  clear H6; intro v7 l7 a7 wx7 hf7 H7
  obtain rfl := hf7
  simp only [List.cons_append, List.nil_append] at H7
  obtain ⟨ArC, crC, hvrC, hRrC, hmrC⟩ := row_shape (v := v7) H7.sep (by repeat (first | exact Mh | apply Mt))
  subst hvrC
  refine plain (y_assign rfl rfl) rfl rfl rfl H7 ?_
  clear H7; intro a8 H8
  refine fin ?_
  refine then_n ?_
  refine wp_seq ?_
  refine reg ?_
  refine plain (y_move rfl rfl) rfl rfl rfl H8 ?_
  clear H8; intro a9 H9
  refine st_callg rfl z_call46 rfl rfl rfl rfl H9 (abest (Auction.counts l fs r fl) _ _ _ rfl (by omega) hcw (Rd.ofSep (rd_row (by repeat (first | exact Mh | apply Mt))) H9.sep) (hG.frm H9.sep.frm (by simp))) ?_
  clear H9; intro a10 wx10 H10
  refine plain (y_assign rfl rfl) rfl rfl rfl H10 ?_
  clear H10; intro a11 H11
  refine fin ?_
  refine then_n ?_
  refine wp_seq ?_
  refine wp_seq ?_
  refine reg ?_
  refine plain (y_move rfl rfl) rfl rfl rfl H11 ?_
  clear H11; intro a12 H12
  refine plain (Auction.y_ptrNil rfl Tryd.underlying92 rfl rfl (fun h0 => Auction.rd_some hRrC hcw (k := 0) (by omega))) rfl rfl rfl H12 ?_
  clear H12; intro a13 H13
  refine fin ?_
  refine then_n ?_
  refine cnd H13 rfl (fun hc14 => ?_) (fun hc14 => ?_) -- cond 1
  · skip
    try simp only [decide_eq_true_eq, decide_eq_false_iff_not, Bool.not_eq_true', Bool.not_eq_false', Bool.and_eq_true, Bool.not_eq_true, Bool.not_eq_false] at hc14
    rw [Auction.win, Auction.win_none hc14]
    refine wp_seq ?_
    refine reg ?_
    refine plain (y_build rfl z_zeroN32 z_places32 rfl lay_n) rfl rfl rfl H13 ?_
    clear H13; intro a15 H15
    refine st_storeN rfl z_size32 rfl rfl (agg_cells _) (by repeat (first | exact Uh | apply Ut)) (q_one_c4b32c1 rfl rfl rfl rfl rfl) (q_len_c4b32c1 (by assumption)) (q_len_c4b32c1 (by assumption)) (q_spl_c4b32c1_0_c4b32c1 (by assumption) (by assumption)) (by decide) rfl rfl H15 ?_
    clear H15; intro wx16 H16
    refine plain (y_assign rfl rfl) rfl rfl rfl H16 ?_
    clear H16; intro a17 H17
    refine fin ?_
    refine then_n ?_
    refine wp_ret ?_
    refine then_r ?_
    -- return 1
    refine retct rfl H17 rfl z_agg32 z_size32 (by repeat (first | exact Mh | apply Mt)) (q_len_c4b32c1 (by assumption)) rfl ?_
    exact ⟨_, [], rfl, ⟨rfl, rfl⟩, H17.sep.sub (List.nil_sublist _)⟩
  · skip
    try simp only [decide_eq_true_eq, decide_eq_false_iff_not, Bool.not_eq_true', Bool.not_eq_false', Bool.and_eq_true, Bool.not_eq_true, Bool.not_eq_false] at hc14
    have hAd := Auction.rd_some hRrC hcw (k := 0) (by omega)
    have hbl := Auction.best_lt (Auction.counts l fs r fl) _ (show 0 < (Auction.counts l fs r fl).length by omega)
    have hwb := Auction.atD hcw hbl
    have htb := hwb.tag
    rw [Auction.win, Auction.win_some (by omega)]
    replace H13 := H13.know (d := 11) rfl (Auction.ptr_pos hc14)
    refine wp_skip ?_
    refine then_n ?_
    refine wp_seq ?_
    refine reg ?_
    refine plain (y_move rfl rfl) rfl rfl rfl H13 ?_
    clear H13; intro a18 H18
    refine plain (Auction.y_nilCk rfl rfl hAd) rfl rfl rfl H18 ?_
    clear H18; intro a19 H19
    refine plain (y_loadAS rfl z_agg30 z_size30 rfl (rd_row (by repeat (first | exact Mh | apply Mt))) (show _ = Note.Bid.cells ((Auction.counts l fs r fl).getD (Auction.best (Auction.counts l fs r fl) (Auction.counts l fs r fl).length) Note.Bid.zero) from Auction.bdc_take hcw _ hbl) (Auction.bid_len htb) (by decide)) rfl rfl rfl H19 ?_
    clear H19; intro a20 H20
    refine plain (y_move rfl rfl) rfl rfl rfl H20 ?_
    clear H20; intro a21 H21
    refine plain (y_build rfl z_zeroN32 z_places32 rfl (lay_f (off := 0) (z := 36) (n := 37) rfl (agg_cells _) (q_len_c4b32 (by assumption)) (q_len_c4b32c1 (by assumption)) (by decide) (q_spl_c4b32c1_0_c4b32 (by assumption) (by assumption)) (lay_1 (off := 36) (n := 37) rfl (q_len_c4b32c1 (by assumption)) (by decide) (q_spl_c4b32c1_36_c1 (by assumption)) lay_n (by rfl)))) rfl rfl rfl H21 ?_
    clear H21; intro a22 H22
    refine st_alloc rfl z_zeroN32 rfl rfl rfl H22 ?_
    clear H22; intro b23 a23 wx23 H23
    refine st_storeN rfl z_size32 rfl rfl (agg_cells _) (by repeat (first | exact Uh | apply Ut)) (q_one_c4b32c1 rfl rfl rfl rfl rfl) (q_len_c4b32c1 (by assumption)) (q_len_c4b32c1 (by assumption)) (q_spl_c4b32c1_0_c4b32c1 (by assumption) (by assumption)) (by decide) rfl rfl H23 ?_
    clear H23; intro wx24 H24
    refine fin ?_
    refine then_n ?_
    refine wp_seq ?_
    refine wp_seq ?_
    refine reg ?_
    refine plain (y_move rfl rfl) rfl rfl rfl H24 ?_
    clear H24; intro a25 H25
    refine plain (y_len rfl Tryd.underlying22 rfl) rfl rfl rfl H25 ?_
    clear H25; intro a26 H26
    refine plain (y_move rfl rfl) rfl rfl rfl H26 ?_
    clear H26; intro a27 H27
    refine fin ?_
    refine then_n ?_
    refine wp_block ?_
    refine loop (ι := Nat) (fun k => [(8, .pointer (some ⟨b1, 0, none⟩)), (10, .slice ArC (Auction.counts l fs r fl).length crC), (12, .pointer (some ⟨b23, 0, none⟩)), (30, .slice ArC (Auction.counts l fs r fl).length crC), (31, .int .i64 ((Auction.counts l fs r fl).length : Int)), (32, .int .i64 (k : Int))]) (fun k => [It.blk b23 32 (Auction.Win.cells ⟨((Auction.counts l fs r fl).getD (Auction.best (Auction.counts l fs r fl) (Auction.counts l fs r fl).length) Note.Bid.zero), Auction.price (Auction.counts l fs r fl) (Auction.best (Auction.counts l fs r fl) (Auction.counts l fs r fl).length) fl k⟩), It.row 30 36 (.slice ArC (Auction.counts l fs r fl).length crC) (Auction.counts l fs r fl).length (Auction.bdc (Auction.counts l fs r fl)), It.blk b1 32 (Auction.Win.cells Auction.Win.zero)]) (fun k => k ≤ (Auction.counts l fs r fl).length) (fun k => (Auction.counts l fs r fl).length - k) (0) (Nat.zero_le _) (H27.weak ⟨rfl, rfl, rfl, rfl, rfl, rfl, trivial⟩ rfl) ?_
    clear H27; intro k a28 wx28 hok28 H28
    have hok := hok28
    have hZl : Note.Z.length = 32 := Note.Z_len
    refine wp_seq ?_
    refine reg ?_
    refine plain (y_lss rfl rfl rfl) rfl rfl rfl H28 ?_
    clear H28; intro a29 H29
    refine fin ?_
    refine then_n ?_
    refine wp_seq ?_
    refine cnd H29 rfl (fun hc30 => ?_) (fun hc30 => ?_) -- cond 2
    · skip
      try simp only [decide_eq_true_eq, decide_eq_false_iff_not, Bool.not_eq_true', Bool.not_eq_false', Bool.and_eq_true, Bool.not_eq_true, Bool.not_eq_false] at hc30
      refine wp_skip ?_
      refine then_n ?_
      refine wp_seq ?_
      refine wp_block ?_
      refine wp_seq ?_
      have hkl : k < (Auction.counts l fs r fl).length := by omega
      have hwk := Auction.atD hcw hkl
      have htg := hwk.tag
      refine reg ?_
      refine plain (y_ixR rfl Tryd.underlying22 z_size30 rfl rfl (by omega) (by omega) (rd_row (by repeat (first | exact Mh | apply Mt))) (by rw [Auction.bdc_len hcw]; omega)) rfl rfl rfl H29 ?_
      clear H29; intro a31 H31
      refine plain (y_loadAS rfl z_agg30 z_size30 rfl (rd_row (by repeat (first | exact Mh | apply Mt))) (show _ = Note.Bid.cells ((Auction.counts l fs r fl).getD k Note.Bid.zero) from Auction.bdc_take hcw k (by omega)) (Auction.bid_len htg) (by decide)) rfl rfl rfl H31 ?_
      clear H31; intro a32 H32
      refine st_alloc rfl z_zeroN30 rfl rfl rfl H32 ?_
      clear H32; intro b33 a33 wx33 H33
      refine st_storeN rfl z_size30 rfl rfl (agg_cells _) (by repeat (first | exact Uh | apply Ut)) (q_one_c4b32 rfl rfl rfl rfl) (q_len_c4b32 (by assumption)) (q_len_c4b32 (by assumption)) (q_spl_c4b32_0_c4b32 (by assumption) (by assumption)) (by decide) rfl rfl H33 ?_
      clear H33; intro wx34 H34
      refine fin ?_
      refine then_n ?_
      refine wp_seq ?_
      refine reg ?_
      refine plain (y_fieldB rfl z_field30_1 rfl (by first | (simp only [Nat.zero_add, Nat.add_zero, Nat.reduceAdd]; rfl) | rfl)) rfl rfl rfl H34 ?_
      clear H34; intro a35 H35
      refine plain (y_loadB rfl z_agg3 rfl (by repeat (first | exact Mh | apply Mt)) q_ix_c4b32_1) rfl rfl rfl H35 ?_
      clear H35; intro a36 H36
      refine plain (y_fieldB rfl z_field32_0 rfl (by first | (simp only [Nat.zero_add, Nat.add_zero, Nat.reduceAdd]; rfl) | rfl)) rfl rfl rfl H36 ?_
      clear H36; intro a37 H37
      refine plain (y_fieldB rfl z_field30_1 rfl (by first | (simp only [Nat.zero_add, Nat.add_zero, Nat.reduceAdd]; rfl) | rfl)) rfl rfl rfl H37 ?_
      clear H37; intro a38 H38
      refine plain (y_loadB rfl z_agg3 rfl (by repeat (first | exact Mh | apply Mt)) q_ix_c4b32c1_1) rfl rfl rfl H38 ?_
      clear H38; intro a39 H39
      refine plain (y_neq rfl rfl rfl) rfl rfl rfl H39 ?_
      clear H39; intro a40 H40
      refine fin ?_
      refine then_n ?_
      refine cnd H40 rfl (fun hc41 => ?_) (fun hc41 => ?_) -- cond 3
      · skip
        try simp only [decide_eq_true_eq, decide_eq_false_iff_not, Bool.not_eq_true', Bool.not_eq_false', Bool.and_eq_true, Bool.not_eq_true, Bool.not_eq_false] at hc41
        refine reg ?_
        refine plain (y_fieldB rfl z_field32_1 rfl (by first | (simp only [Nat.zero_add, Nat.add_zero, Nat.reduceAdd]; rfl) | rfl)) rfl rfl rfl H40 ?_
        clear H40; intro a42 H42
        refine plain (y_loadB rfl z_agg3 rfl (by repeat (first | exact Mh | apply Mt)) (q_ix_c4b32c1_36 (by assumption))) rfl rfl rfl H42 ?_
        clear H42; intro a43 H43
        refine plain (y_fieldB rfl z_field30_2 rfl (by first | (simp only [Nat.zero_add, Nat.add_zero, Nat.reduceAdd]; rfl) | rfl)) rfl rfl rfl H43 ?_
        clear H43; intro a44 H44
        refine plain (y_loadB rfl z_agg3 rfl (by repeat (first | exact Mh | apply Mt)) q_ix_c4b32_2) rfl rfl rfl H44 ?_
        clear H44; intro a45 H45
        refine plain (y_max2 rfl rfl rfl) rfl rfl rfl H45 ?_
        clear H45; intro a46 H46
        refine plain (y_fieldB rfl z_field32_1 rfl (by first | (simp only [Nat.zero_add, Nat.add_zero, Nat.reduceAdd]; rfl) | rfl)) rfl rfl rfl H46 ?_
        clear H46; intro a47 H47
        refine st_store1N rfl z_size3 rfl rfl rfl (by repeat (first | exact Uh | apply Ut)) (q_len_c4b32c1 (by assumption)) (q_set_c4b32c1_36 (by assumption)) (by decide) rfl rfl H47 ?_
        clear H47; intro wx48 H48
        refine fin ?_
        refine inb_n ?_
        refine then_n ?_
        refine reg ?_
        refine plain (y_add rfl rfl rfl (by first | exact w64 (by omega) (by omega) | rfl)) rfl rfl rfl H48 ?_
        clear H48; intro a49 H49
        refine plain (y_move rfl rfl) rfl rfl rfl H49 ?_
        clear H49; intro a50 H50
        refine fin ?_
        refine then_n ?_
        refine ⟨k + 1, by omega, by omega, (H50.drop (List.Sublist.cons _ (List.Sublist.refl _))).weak ⟨rfl, rfl, rfl, rfl, rfl, fi rfl (by omega), trivial⟩ (ib ?_)⟩
        first | (rw [Auction.price_eq hfi fl hkl hbl (by assumption)]; try rfl) | (rw [Auction.price_ne fl (by assumption)]; try rfl)
      · skip
        try simp only [decide_eq_true_eq, decide_eq_false_iff_not, Bool.not_eq_true', Bool.not_eq_false', Bool.and_eq_true, Bool.not_eq_true, Bool.not_eq_false] at hc41
        refine wp_skip ?_
        refine inb_n ?_
        refine then_n ?_
        refine reg ?_
        refine plain (y_add rfl rfl rfl (by first | exact w64 (by omega) (by omega) | rfl)) rfl rfl rfl H40 ?_
        clear H40; intro a51 H51
        refine plain (y_move rfl rfl) rfl rfl rfl H51 ?_
        clear H51; intro a52 H52
        refine fin ?_
        refine then_n ?_
        refine ⟨k + 1, by omega, by omega, (H52.drop (List.Sublist.cons _ (List.Sublist.refl _))).weak ⟨rfl, rfl, rfl, rfl, rfl, fi rfl (by omega), trivial⟩ (ib ?_)⟩
        first | (rw [Auction.price_eq hfi fl hkl hbl (by assumption)]; try rfl) | (rw [Auction.price_ne fl (by assumption)]; try rfl)
    · skip
      try simp only [decide_eq_true_eq, decide_eq_false_iff_not, Bool.not_eq_true', Bool.not_eq_false', Bool.and_eq_true, Bool.not_eq_true, Bool.not_eq_false] at hc30
      refine wp_exit ?_
      refine then_x ?_
      refine then_x ?_
      refine inb_hit ?_
      refine then_n ?_
      refine wp_seq ?_
      refine reg ?_
      refine plain (y_loadAB rfl z_agg32 z_size32 rfl (by repeat (first | exact Mh | apply Mt)) (q_ld_c4b32c1_0_37 (by assumption)) (q_len_c4b32c1 (by assumption))) rfl rfl rfl H29 ?_
      clear H29; intro a53 H53
      refine st_storeN rfl z_size32 rfl rfl (agg_cells _) (by repeat (first | exact Uh | apply Ut)) (q_one_c4b32c1 rfl rfl rfl rfl rfl) (q_len_c4b32c1 (by assumption)) (q_len_c4b32c1 (by assumption)) (q_spl_c4b32c1_0_c4b32c1 (by assumption) (by assumption)) (by decide) rfl rfl H53 ?_
      clear H53; intro wx54 H54
      refine plain (y_assign rfl rfl) rfl rfl rfl H54 ?_
      clear H54; intro a55 H55
      refine fin ?_
      refine then_n ?_
      refine wp_ret ?_
      -- return 2
      refine retct rfl H55 rfl z_agg32 z_size32 (by repeat (first | exact Mh | apply Mt)) (q_len_c4b32c1 (by assumption)) rfl ?_
      refine ⟨_, [], rfl, ⟨?_, rfl⟩, H55.sep.sub (List.nil_sublist _)⟩
      rw [show (Auction.counts l fs r fl).length = k by omega]
      rfl

end Go.Proofs.YtaeahloenahelaaDoor.A_Win

set_option linter.unusedVariables false
set_option linter.unusedSimpArgs false
namespace Go.Proofs.YtaeahloenahelaaDoor.A_RCnt
open Go.Sx Go.RowKit Go.Proofs.YtaeahloenahelaaDoor.A_Block Go.Proofs.YtaeahloenahelaaDoor.A_Sum Go.Proofs.YtaeahloenahelaaDoor.A_Ref Go.Proofs.YtaeahloenahelaaDoor.A_RSum Go.Proofs.YtaeahloenahelaaDoor.A_Leaf Go.Proofs.YtaeahloenahelaaDoor.A_Num Go.Proofs.YtaeahloenahelaaDoor.A_Key Go.Proofs.YtaeahloenahelaaDoor.A_Ref Go.Proofs.YtaeahloenahelaaDoor.A_RSum Go.Proofs.YtaeahloenahelaaDoor.A_Tag Go.Proofs.YtaeahloenahelaaDoor.A_Lay Go.Proofs.YtaeahloenahelaaDoor.A_Eq Go.Proofs.YtaeahloenahelaaDoor.A_Ref0 Go.Proofs.YtaeahloenahelaaDoor.A_Sign Go.Proofs.YtaeahloenahelaaDoor.A_RefB

theorem z_size30 : sizeB Tryd.prog 30 = some 36 := by kernel_rfl
theorem z_agg30 : aggB Tryd.prog 30 = some true := by kernel_rfl
theorem z_zeroN30 : zeroL Tryd.prog 30 = some ((.int .i64 0 :: (.int .i64 0 :: (.int .i64 0 :: (.int .i64 0 :: (List.replicate 32 (0 : UInt8)).map u8))))) := by kernel_rfl
theorem q_one_c4b32 {a0 a1 a2 a3 : Value} {t4 : List UInt8} (o0 : a0.oneCell' = true) (o1 : a1.oneCell' = true) (o2 : a2.oneCell' = true) (o3 : a3.oneCell' = true) : (a0 :: a1 :: a2 :: a3 :: t4.map u8).all (·.oneCell') = true := (one_c o0 (one_c o1 (one_c o2 (one_c o3 (one_u8 _)))))
theorem q_len_c4b32 {a0 a1 a2 a3 : Value} {t4 : List UInt8} (h4 : t4.length = 32) : (a0 :: a1 :: a2 :: a3 :: t4.map u8).length = 36 := (len_c (n := 35) (len_c (n := 34) (len_c (n := 33) (len_c (n := 32) (len_e (k := 32) h4)))))
theorem q_spl_c4b32_0_c4b32 {a0 a1 a2 a3 : Value} {t4 : List UInt8} {b0 b1 b2 b3 : Value} {s4 : List UInt8} (h4 : t4.length = 32) (g4 : s4.length = 32) : spl (a0 :: a1 :: a2 :: a3 :: t4.map u8) 0 (b0 :: b1 :: b2 :: b3 :: s4.map u8) = b0 :: b1 :: b2 :: b3 :: s4.map u8 := (spl_a (z := 36) (len_c (n := 35) (len_c (n := 34) (len_c (n := 33) (len_c (n := 32) (len_e (k := 32) h4))))) (len_c (n := 35) (len_c (n := 34) (len_c (n := 33) (len_c (n := 32) (len_e (k := 32) g4))))))
theorem q_ld_c4b32_0_36 {a0 a1 a2 a3 : Value} {t4 : List UInt8} (h4 : t4.length = 32) : ((a0 :: a1 :: a2 :: a3 :: t4.map u8).drop 0).take 36 = a0 :: a1 :: a2 :: a3 :: t4.map u8 := (ld_a (len_c (n := 35) (len_c (n := 34) (len_c (n := 33) (len_c (n := 32) (len_e (k := 32) h4))))))
theorem z_call51 : callB Tryd.prog 51 = true := by kernel_rfl
theorem z_field30_0 : fieldB Tryd.prog 30 0 = some 0 := by kernel_rfl
theorem z_agg3 : aggB Tryd.prog 3 = some false := by kernel_rfl
theorem q_ix_c4b32_0 {a0 a1 a2 a3 : Value} {t4 : List UInt8} : (a0 :: a1 :: a2 :: a3 :: t4.map u8)[0]? = some a0 := ix_0
theorem z_field30_2 : fieldB Tryd.prog 30 2 = some 2 := by kernel_rfl
theorem q_ix_c4b32_2 {a0 a1 a2 a3 : Value} {t4 : List UInt8} : (a0 :: a1 :: a2 :: a3 :: t4.map u8)[2]? = some a2 := (ix_c (o := 1) (ix_c (o := 0) ix_0))
theorem z_field30_1 : fieldB Tryd.prog 30 1 = some 1 := by kernel_rfl
theorem q_ix_c4b32_1 {a0 a1 a2 a3 : Value} {t4 : List UInt8} : (a0 :: a1 :: a2 :: a3 :: t4.map u8)[1]? = some a1 := (ix_c (o := 0) ix_0)
theorem z_size3 : sizeB Tryd.prog 3 = some 1 := by kernel_rfl
theorem z_zero30 : zeroL Tryd.prog 30 = some ([.int .i64 0, .int .i64 0, .int .i64 0, .int .i64 0, .int .u8 0, .int .u8 0, .int .u8 0, .int .u8 0, .int .u8 0, .int .u8 0, .int .u8 0, .int .u8 0, .int .u8 0, .int .u8 0, .int .u8 0, .int .u8 0, .int .u8 0, .int .u8 0, .int .u8 0, .int .u8 0, .int .u8 0, .int .u8 0, .int .u8 0, .int .u8 0, .int .u8 0, .int .u8 0, .int .u8 0, .int .u8 0, .int .u8 0, .int .u8 0, .int .u8 0, .int .u8 0, .int .u8 0, .int .u8 0, .int .u8 0, .int .u8 0]) := by kernel_rfl
theorem z_slice22 : sliceB Tryd.prog 22 = some (30, 36, 64) := by kernel_rfl
theorem z_notint22 : notIntB Tryd.prog 22 = true := by kernel_rfl

set_option maxRecDepth 100000 in
set_option maxHeartbeats 2000000 in
theorem rcounts (l : List Note.Bid) (fs : List Int) (r fl : Int) (A B : Option Addr) (m n c e : Nat) (hm : m = l.length) (hn : n = fs.length) (hl : l.length ≤ 1000) (hfl : fs.length ≤ 9223372036854775807) {w : World} (hw : ∀ x ∈ l, Note.Bid.Wf x) (hA : Rd w A (Auction.bdc l)) (hB : Rd w B (fs.map i64))  : Calls Tryd.prog 16 #[.slice A m c, .slice B n e, .int .i64 r, .int .i64 fl] w (Post [] w (fun u l' => l' = [It.row 30 36 u (Auction.counts l fs r fl).length (Auction.bdc (Auction.counts l fs r fl))])) := by
  subst hm
  subst hn
  have lz32 : (List.replicate 32 (0 : UInt8)).length = 32 := List.length_replicate
  refine enterL (args := [.slice A l.length c, .slice B fs.length e, .int .i64 r, .int .i64 fl]) Tryd.func16 rfl rfl (l := []) (Sep.refl _) ?_
  intro a0 H0
  refine wp_seq ?_
  refine reg ?_
  refine plain (y_assign rfl rfl) rfl rfl rfl H0 ?_
  clear H0; intro a1 H1
  refine fin ?_
  refine then_n ?_
  refine wp_seq ?_
  refine reg ?_
  refine plain (y_assign rfl rfl) rfl rfl rfl H1 ?_
  clear H1; intro a2 H2
  refine fin ?_
  refine then_n ?_
  refine wp_seq ?_
  refine wp_seq ?_
  refine reg ?_
  refine plain (y_assign rfl rfl) rfl rfl rfl H2 ?_
  clear H2; intro a3 H3
  refine fin ?_
  refine then_n ?_
  refine wp_block ?_
  replace H3 := H3.nilRow 30 36
  refine loop (ι := Nat × Value) (fun x => [(0, .slice A l.length c), (1, .slice B fs.length e), (2, .int .i64 r), (3, .int .i64 fl), (9, x.2), (10, .int .i64 (x.1 : Int))]) (fun x => [It.row 30 36 x.2 (Auction.counts (l.take x.1) fs r fl).length (Auction.bdc (Auction.counts (l.take x.1) fs r fl))]) (fun x => x.1 ≤ l.length) (fun x => l.length - x.1) ((0, .slice none 0 0)) (Nat.zero_le _) (H3.weak ⟨rfl, rfl, rfl, rfl, rfl, rfl, trivial⟩ rfl) ?_
  clear H3; intro x a4 wx4 hok4 H4
  obtain ⟨k, v⟩ := x
  dsimp only at hok4 H4
  have hok := hok4
  have hcw : ∀ x ∈ (Auction.counts (l.take k) fs r fl), Note.Bid.Wf x := Auction.counts_wf (fun x hx => hw x (List.mem_of_mem_take hx)) _ _ _
  have hcl := Auction.counts_len fs r fl (l.take k)
  rw [List.length_take] at hcl
  obtain ⟨Av, cv, hv, hRv, hmv⟩ := row_shape (v := v) H4.sep (by repeat (first | exact Mh | apply Mt))
  subst hv
  refine wp_seq ?_
  refine wp_seq ?_
  refine reg ?_
  refine plain (y_move rfl rfl) rfl rfl rfl H4 ?_
  clear H4; intro a5 H5
  refine plain (y_move rfl rfl) rfl rfl rfl H5 ?_
  clear H5; intro a6 H6
  refine plain (y_len rfl Tryd.underlying22 rfl) rfl rfl rfl H6 ?_
  clear H6; intro a7 H7
  refine plain (y_lss rfl rfl rfl) rfl rfl rfl H7 ?_
  clear H7; intro a8 H8
  refine fin ?_
  refine then_n ?_
  refine cnd H8 rfl (fun hc9 => ?_) (fun hc9 => ?_) -- cond 1
  · skip
    try simp only [decide_eq_true_eq, decide_eq_false_iff_not, Bool.not_eq_true', Bool.not_eq_false', Bool.and_eq_true, Bool.not_eq_true, Bool.not_eq_false] at hc9
    refine wp_skip ?_
    refine then_n ?_
    refine wp_seq ?_
    refine wp_block ?_
    refine wp_seq ?_
    have hkl : k < l.length := by omega
    have hwk := Auction.atD hw hkl
    have htg := hwk.tag
    refine reg ?_
    refine plain (y_move rfl rfl) rfl rfl rfl H8 ?_
    clear H8; intro a10 H10
    refine plain (y_move rfl rfl) rfl rfl rfl H10 ?_
    clear H10; intro a11 H11
    refine plain (y_ixR rfl Tryd.underlying22 z_size30 rfl rfl (by omega) (by omega) (rd_old hA (by simp)) (by first | (rw [Auction.bdc_len hw]; omega) | (rw [Auction.bdc_len hcw]; omega) | (rw [List.length_map]; omega))) rfl rfl rfl H11 ?_
    clear H11; intro a12 H12
    refine plain (y_loadAS rfl z_agg30 z_size30 rfl (rd_old hA (by simp)) (show _ = Note.Bid.cells (l.getD k Note.Bid.zero) from Auction.bdc_take hw k (by omega)) (Auction.bid_len htg) (by decide)) rfl rfl rfl H12 ?_
    clear H12; intro a13 H13
    refine st_alloc rfl z_zeroN30 rfl rfl rfl H13 ?_
    clear H13; intro b14 a14 wx14 H14
    refine st_storeN rfl z_size30 rfl rfl (agg_cells _) (by repeat (first | exact Uh | apply Ut)) (q_one_c4b32 rfl rfl rfl rfl) (q_len_c4b32 (by assumption)) (q_len_c4b32 (by assumption)) (q_spl_c4b32_0_c4b32 (by assumption) (by assumption)) (by decide) rfl rfl H14 ?_
    clear H14; intro wx15 H15
    refine fin ?_
    refine then_n ?_
    refine wp_seq ?_
    refine wp_cut (fun aC wC => St Tryd.f16.ntmps [] w ([(0, .slice A l.length c), (1, .slice B fs.length e), (2, .int .i64 r), (3, .int .i64 fl), (9, .slice Av (Auction.counts (l.take k) fs r fl).length cv), (10, .int .i64 (k : Int)), (11, .pointer (some ⟨b14, 0, none⟩)), (12, .bool (decide (Auction.good r fl (l.getD k Note.Bid.zero))))]) ([It.blk b14 30 (Note.Bid.cells (l.getD k Note.Bid.zero)), It.row 30 36 (.slice Av (Auction.counts (l.take k) fs r fl).length cv) (Auction.counts (l.take k) fs r fl).length (Auction.bdc (Auction.counts (l.take k) fs r fl))]) aC wC) ?_ ?_
    · skip
      refine reg ?_
      refine plain (y_loadAB rfl z_agg30 z_size30 rfl (by repeat (first | exact Mh | apply Mt)) (q_ld_c4b32_0_36 (by assumption)) (q_len_c4b32 (by assumption))) rfl rfl rfl H15 ?_
      clear H15; intro a16 H16
      refine st_callg rfl z_call51 rfl rfl rfl rfl H16 (rcheck (l.getD k Note.Bid.zero) hwk _) ?_
      clear H16; intro a17 wx17 H17
      refine plain (y_eql rfl rfl rfl) rfl rfl rfl H17 ?_
      clear H17; intro a18 H18
      refine plain (y_move rfl rfl) rfl rfl rfl H18 ?_
      clear H18; intro a19 H19
      refine Sx.part (d := 28) H19 rfl (fun hg20 => ?_) (fun hg20 => ?_)
      · first
        | fail
        | skip
          clear H19; intro H21
          try simp only [decide_eq_true_eq, decide_eq_false_iff_not, Bool.not_eq_true', Bool.not_eq_false', Bool.and_eq_true, Bool.not_eq_true, Bool.not_eq_false] at hg20
          refine plain (y_fieldB rfl z_field30_0 rfl (by first | (simp only [Nat.zero_add, Nat.add_zero, Nat.reduceAdd]; rfl) | rfl)) rfl rfl rfl H21 ?_
          clear H21; intro a22 H22
          refine plain (y_loadB rfl z_agg3 rfl (by repeat (first | exact Mh | apply Mt)) q_ix_c4b32_0) rfl rfl rfl H22 ?_
          clear H22; intro a23 H23
          refine plain (y_move rfl rfl) rfl rfl rfl H23 ?_
          clear H23; intro a24 H24
          refine plain (y_eql rfl rfl rfl) rfl rfl rfl H24 ?_
          clear H24; intro a25 H25
          refine plain (y_pick_t rfl rfl rfl) rfl rfl rfl H25 ?_
          clear H25; intro a26 H26
          refine plain (y_move rfl rfl) rfl rfl rfl H26 ?_
          clear H26; intro a27 H27
          refine Sx.part (d := 34) H27 rfl (fun hg28 => ?_) (fun hg28 => ?_)
          · first
            | fail
            | skip
              clear H27; intro H29
              try simp only [decide_eq_true_eq, decide_eq_false_iff_not, Bool.not_eq_true', Bool.not_eq_false', Bool.and_eq_true, Bool.not_eq_true, Bool.not_eq_false] at hg28
              refine plain (y_fieldB rfl z_field30_2 rfl (by first | (simp only [Nat.zero_add, Nat.add_zero, Nat.reduceAdd]; rfl) | rfl)) rfl rfl rfl H29 ?_
              clear H29; intro a30 H30
              refine plain (y_loadB rfl z_agg3 rfl (by repeat (first | exact Mh | apply Mt)) q_ix_c4b32_2) rfl rfl rfl H30 ?_
              clear H30; intro a31 H31
              refine plain (y_move rfl rfl) rfl rfl rfl H31 ?_
              clear H31; intro a32 H32
              refine plain (y_geq rfl rfl rfl) rfl rfl rfl H32 ?_
              clear H32; intro a33 H33
              refine plain (y_pick_t rfl rfl rfl) rfl rfl rfl H33 ?_
              clear H33; intro a34 H34
              refine plain (y_assign rfl rfl) rfl rfl rfl H34 ?_
              clear H34; intro a35 H35
              refine fin ?_
              refine cut_n ?_
              exact H35.weak ⟨rfl, rfl, rfl, rfl, rfl, rfl, rfl, fv rfl (congrArg Value.bool (by first | exact (decide_eq_false (by rintro ⟨g1, g2, g3⟩; omega)).symm | exact decide_eq_decide.2 ⟨fun g3 => ⟨by omega, by omega, by omega⟩, fun g => by have := g.2.2; omega⟩)), trivial⟩ rfl
          · first
            | fail
            | skip
              clear H27; intro H36
              try simp only [decide_eq_true_eq, decide_eq_false_iff_not, Bool.not_eq_true', Bool.not_eq_false', Bool.and_eq_true, Bool.not_eq_true, Bool.not_eq_false] at hg28
              refine skip rfl rfl rfl H36 ?_
              clear H36; intro a37 H37
              refine skip rfl rfl rfl H37 ?_
              clear H37; intro a38 H38
              refine skip rfl rfl rfl H38 ?_
              clear H38; intro a39 H39
              refine skip rfl rfl rfl H39 ?_
              clear H39; intro a40 H40
              refine plain (y_pick_f rfl rfl rfl) rfl rfl rfl H40 ?_
              clear H40; intro a41 H41
              refine plain (y_assign rfl rfl) rfl rfl rfl H41 ?_
              clear H41; intro a42 H42
              refine fin ?_
              refine cut_n ?_
              exact H42.weak ⟨rfl, rfl, rfl, rfl, rfl, rfl, rfl, fv rfl (congrArg Value.bool (by first | exact (decide_eq_false (by rintro ⟨g1, g2, g3⟩; omega)).symm | exact decide_eq_decide.2 ⟨fun g3 => ⟨by omega, by omega, by omega⟩, fun g => by have := g.2.2; omega⟩)), trivial⟩ rfl
      · first
        | fail
        | skip
          clear H19; intro H43
          try simp only [decide_eq_true_eq, decide_eq_false_iff_not, Bool.not_eq_true', Bool.not_eq_false', Bool.and_eq_true, Bool.not_eq_true, Bool.not_eq_false] at hg20
          refine skip rfl rfl rfl H43 ?_
          clear H43; intro a44 H44
          refine skip rfl rfl rfl H44 ?_
          clear H44; intro a45 H45
          refine skip rfl rfl rfl H45 ?_
          clear H45; intro a46 H46
          refine skip rfl rfl rfl H46 ?_
          clear H46; intro a47 H47
          refine plain (y_pick_f rfl rfl rfl) rfl rfl rfl H47 ?_
          clear H47; intro a48 H48
          refine plain (y_move rfl rfl) rfl rfl rfl H48 ?_
          clear H48; intro a49 H49
          refine skip rfl rfl rfl H49 ?_
          clear H49; intro a50 H50
          refine skip rfl rfl rfl H50 ?_
          clear H50; intro a51 H51
          refine skip rfl rfl rfl H51 ?_
          clear H51; intro a52 H52
          refine skip rfl rfl rfl H52 ?_
          clear H52; intro a53 H53
          refine plain (y_pick_f rfl rfl rfl) rfl rfl rfl H53 ?_
          clear H53; intro a54 H54
          refine plain (y_assign rfl rfl) rfl rfl rfl H54 ?_
          clear H54; intro a55 H55
          refine fin ?_
          refine cut_n ?_
          exact H55.weak ⟨rfl, rfl, rfl, rfl, rfl, rfl, rfl, fv rfl (congrArg Value.bool (by first | exact (decide_eq_false (by rintro ⟨g1, g2, g3⟩; omega)).symm | exact decide_eq_decide.2 ⟨fun g3 => ⟨by omega, by omega, by omega⟩, fun g => by have := g.2.2; omega⟩)), trivial⟩ rfl
    · clear H15; intro a56 wx56 hI56
      have H56 := hI56
      refine then_n ?_
      refine wp_seq ?_
      refine reg ?_
      refine plain (y_assign rfl rfl) rfl rfl rfl H56 ?_
      clear H56; intro a57 H57
      refine fin ?_
      refine then_n ?_
      refine wp_seq ?_
      refine wp_seq ?_
      refine wp_cut (fun aC wC => St Tryd.f16.ntmps [] w ([(0, .slice A l.length c), (1, .slice B fs.length e), (2, .int .i64 r), (3, .int .i64 fl), (9, .slice Av (Auction.counts (l.take k) fs r fl).length cv), (10, .int .i64 (k : Int)), (11, .pointer (some ⟨b14, 0, none⟩)), (12, .bool (decide (Auction.good r fl (l.getD k Note.Bid.zero)))), (13, .int .i64 0), (47, .bool (decide ((Auction.good r fl (l.getD k Note.Bid.zero)) ∧ (l.getD k Note.Bid.zero).who < (fs.length : Int))))]) ([It.blk b14 30 (Note.Bid.cells (l.getD k Note.Bid.zero)), It.row 30 36 (.slice Av (Auction.counts (l.take k) fs r fl).length cv) (Auction.counts (l.take k) fs r fl).length (Auction.bdc (Auction.counts (l.take k) fs r fl))]) aC wC) ?_ ?_
      · skip
        refine reg ?_
        refine plain (y_move rfl rfl) rfl rfl rfl H57 ?_
        clear H57; intro a58 H58
        refine plain (y_move rfl rfl) rfl rfl rfl H58 ?_
        clear H58; intro a59 H59
        refine Sx.part (d := 41) H59 rfl (fun hg60 => ?_) (fun hg60 => ?_)
        · first
          | fail
          | skip
            clear H59; intro H61
            try simp only [decide_eq_true_eq, decide_eq_false_iff_not, Bool.not_eq_true', Bool.not_eq_false', Bool.and_eq_true, Bool.not_eq_true, Bool.not_eq_false] at hg60
            refine plain (y_fieldB rfl z_field30_1 rfl (by first | (simp only [Nat.zero_add, Nat.add_zero, Nat.reduceAdd]; rfl) | rfl)) rfl rfl rfl H61 ?_
            clear H61; intro a62 H62
            refine plain (y_loadB rfl z_agg3 rfl (by repeat (first | exact Mh | apply Mt)) q_ix_c4b32_1) rfl rfl rfl H62 ?_
            clear H62; intro a63 H63
            refine plain (y_move rfl rfl) rfl rfl rfl H63 ?_
            clear H63; intro a64 H64
            refine plain (y_len rfl Tryd.underlying23 rfl) rfl rfl rfl H64 ?_
            clear H64; intro a65 H65
            refine plain (y_lss rfl rfl rfl) rfl rfl rfl H65 ?_
            clear H65; intro a66 H66
            refine plain (y_pick_t rfl rfl rfl) rfl rfl rfl H66 ?_
            clear H66; intro a67 H67
            refine fin ?_
            refine cut_n ?_
            exact H67.weak ⟨rfl, rfl, rfl, rfl, rfl, rfl, rfl, rfl, rfl, fv rfl (congrArg Value.bool (by first | exact decide_eq_decide.2 ⟨fun h => ⟨by assumption, h⟩, fun h => h.2⟩ | exact (decide_eq_false (fun h => absurd h.1 (by assumption))).symm)), trivial⟩ rfl
        · first
          | fail
          | skip
            clear H59; intro H68
            try simp only [decide_eq_true_eq, decide_eq_false_iff_not, Bool.not_eq_true', Bool.not_eq_false', Bool.and_eq_true, Bool.not_eq_true, Bool.not_eq_false] at hg60
            refine skip rfl rfl rfl H68 ?_
            clear H68; intro a69 H69
            refine skip rfl rfl rfl H69 ?_
            clear H69; intro a70 H70
            refine skip rfl rfl rfl H70 ?_
            clear H70; intro a71 H71
            refine skip rfl rfl rfl H71 ?_
            clear H71; intro a72 H72
            refine skip rfl rfl rfl H72 ?_
            clear H72; intro a73 H73
            refine plain (y_pick_f rfl rfl rfl) rfl rfl rfl H73 ?_
            clear H73; intro a74 H74
            refine fin ?_
            refine cut_n ?_
            exact H74.weak ⟨rfl, rfl, rfl, rfl, rfl, rfl, rfl, rfl, rfl, fv rfl (congrArg Value.bool (by first | exact decide_eq_decide.2 ⟨fun h => ⟨by assumption, h⟩, fun h => h.2⟩ | exact (decide_eq_false (fun h => absurd h.1 (by assumption))).symm)), trivial⟩ rfl
      · clear H57; intro a75 wx75 hI75
        have H75 := hI75
        refine then_n ?_
        refine wp_cut (fun aC wC => St Tryd.f16.ntmps [] w ([(0, .slice A l.length c), (1, .slice B fs.length e), (2, .int .i64 r), (3, .int .i64 fl), (9, .slice Av (Auction.counts (l.take k) fs r fl).length cv), (10, .int .i64 (k : Int)), (11, .pointer (some ⟨b14, 0, none⟩)), (12, .bool (decide (Auction.good r fl (l.getD k Note.Bid.zero)))), (13, .int .i64 (if (Auction.good r fl (l.getD k Note.Bid.zero)) then Auction.has fs (l.getD k Note.Bid.zero) else 0))]) ([It.blk b14 30 (Note.Bid.cells (l.getD k Note.Bid.zero)), It.row 30 36 (.slice Av (Auction.counts (l.take k) fs r fl).length cv) (Auction.counts (l.take k) fs r fl).length (Auction.bdc (Auction.counts (l.take k) fs r fl))]) aC wC) ?_ ?_
        · skip
          refine cnd H75 rfl (fun hc76 => ?_) (fun hc76 => ?_) -- cond 2
          · skip
            try simp only [decide_eq_true_eq, decide_eq_false_iff_not, Bool.not_eq_true', Bool.not_eq_false', Bool.and_eq_true, Bool.not_eq_true, Bool.not_eq_false] at hc76
            have hzj := hc76
            obtain ⟨hgd, hbw⟩ := hzj
            have hbd := Auction.ok_bounds (Auction.check_ok hgd.1)
            refine reg ?_
            refine plain (y_move rfl rfl) rfl rfl rfl H75 ?_
            clear H75; intro a77 H77
            refine plain (y_fieldB rfl z_field30_1 rfl (by first | (simp only [Nat.zero_add, Nat.add_zero, Nat.reduceAdd]; rfl) | rfl)) rfl rfl rfl H77 ?_
            clear H77; intro a78 H78
            refine plain (y_loadB rfl z_agg3 rfl (by repeat (first | exact Mh | apply Mt)) q_ix_c4b32_1) rfl rfl rfl H78 ?_
            clear H78; intro a79 H79
            refine plain (y_ixR rfl Tryd.underlying23 z_size3 rfl rfl (by omega) (by omega) (rd_old hB (by simp)) (by first | (rw [Auction.bdc_len hw]; omega) | (rw [Auction.bdc_len hcw]; omega) | (rw [List.length_map]; omega))) rfl rfl rfl H79 ?_
            clear H79; intro a80 H80
            refine plain (y_loadR rfl z_agg3 rfl (rd_old hB (by simp)) (by rw [Nat.mul_one]; exact i64_get fs _ (by omega))) rfl rfl rfl H80 ?_
            clear H80; intro a81 H81
            refine plain (y_assign rfl rfl) rfl rfl rfl H81 ?_
            clear H81; intro a82 H82
            refine fin ?_
            refine cut_n ?_
            exact H82.weak ⟨rfl, rfl, rfl, rfl, rfl, rfl, rfl, rfl, fv rfl (congrArg (Value.int .i64) (by first | exact Auction.has_yes (by assumption) | exact Auction.has_no (by assumption))), trivial⟩ rfl
          · skip
            try simp only [decide_eq_true_eq, decide_eq_false_iff_not, Bool.not_eq_true', Bool.not_eq_false', Bool.and_eq_true, Bool.not_eq_true, Bool.not_eq_false] at hc76
            refine wp_skip ?_
            refine cut_n ?_
            exact H75.weak ⟨rfl, rfl, rfl, rfl, rfl, rfl, rfl, rfl, fv rfl (congrArg (Value.int .i64) (by first | exact Auction.has_yes (by assumption) | exact Auction.has_no (by assumption))), trivial⟩ rfl
        · clear H75; intro a83 wx83 hI83
          have H83 := hI83
          refine then_n ?_
          refine wp_seq ?_
          refine wp_seq ?_
          refine reg ?_
          refine plain (y_assign rfl rfl) rfl rfl rfl H83 ?_
          clear H83; intro a84 H84
          refine fin ?_
          refine then_n ?_
          refine wp_block ?_
          refine loop (ι := Nat × Bool) (fun y => [(0, .slice A l.length c), (1, .slice B fs.length e), (2, .int .i64 r), (3, .int .i64 fl), (9, .slice Av (Auction.counts (l.take k) fs r fl).length cv), (10, .int .i64 (k : Int)), (11, .pointer (some ⟨b14, 0, none⟩)), (12, .bool y.2), (13, .int .i64 (if (Auction.good r fl (l.getD k Note.Bid.zero)) then Auction.has fs (l.getD k Note.Bid.zero) else 0)), (14, .int .i64 (y.1 : Int))]) (fun y => [It.blk b14 30 (Note.Bid.cells (l.getD k Note.Bid.zero)), It.row 30 36 (.slice Av (Auction.counts (l.take k) fs r fl).length cv) (Auction.counts (l.take k) fs r fl).length (Auction.bdc (Auction.counts (l.take k) fs r fl))]) (fun y => y.1 ≤ (Auction.counts (l.take k) fs r fl).length ∧ y.2 = (decide (Auction.good r fl (l.getD k Note.Bid.zero)) && Auction.sees (Auction.counts (l.take k) fs r fl) (l.getD k Note.Bid.zero) y.1)) (fun y => (Auction.counts (l.take k) fs r fl).length - y.1) ((0, decide (Auction.good r fl (l.getD k Note.Bid.zero)))) ⟨Nat.zero_le _, by simp [Auction.sees]⟩ (H84.weak ⟨rfl, rfl, rfl, rfl, rfl, rfl, rfl, rfl, rfl, rfl, trivial⟩ rfl) ?_
          clear H84; intro y a85 wx85 hok85 H85
          obtain ⟨j, q⟩ := y
          dsimp only at hok85 H85
          obtain ⟨hjl, hq⟩ := hok85
          refine wp_seq ?_
          refine wp_seq ?_
          refine reg ?_
          refine plain (y_move rfl rfl) rfl rfl rfl H85 ?_
          clear H85; intro a86 H86
          refine plain (y_move rfl rfl) rfl rfl rfl H86 ?_
          clear H86; intro a87 H87
          refine plain (y_len rfl Tryd.underlying22 rfl) rfl rfl rfl H87 ?_
          clear H87; intro a88 H88
          refine plain (y_lss rfl rfl rfl) rfl rfl rfl H88 ?_
          clear H88; intro a89 H89
          refine fin ?_
          refine then_n ?_
          refine cnd H89 rfl (fun hc90 => ?_) (fun hc90 => ?_) -- cond 3
          · skip
            try simp only [decide_eq_true_eq, decide_eq_false_iff_not, Bool.not_eq_true', Bool.not_eq_false', Bool.and_eq_true, Bool.not_eq_true, Bool.not_eq_false] at hc90
            refine wp_skip ?_
            refine then_n ?_
            refine wp_seq ?_
            refine wp_block ?_
            refine wp_seq ?_
            have hjC : j < (Auction.counts (l.take k) fs r fl).length := by omega
            refine qreg (by kernel_rfl) (by kernel_rfl) H89 ?_
            have F91 := H89.fr
            clear H89
            refine qplain (y_move rfl rfl) rfl rfl rfl F91 ?_
            clear F91; intro a92 H92
            refine qplain (y_move rfl rfl) rfl rfl rfl H92 ?_
            clear H92; intro a93 H93
            refine qplain (y_ixR rfl Tryd.underlying22 z_size30 rfl rfl (by omega) (by omega) (rd_row (by repeat (first | exact Mh | apply Mt))) (by first | (rw [Auction.bdc_len hw]; omega) | (rw [Auction.bdc_len hcw]; omega) | (rw [List.length_map]; omega))) rfl rfl rfl H93 ?_
            clear H93; intro a94 H94
            refine qplain (y_fieldS rfl z_field30_1 rfl (rd_row (by repeat (first | exact Mh | apply Mt))) (by first | (rw [Auction.bdc_len hw]; omega) | (rw [Auction.bdc_len hcw]; omega) | (rw [List.length_map]; omega))) rfl rfl rfl H94 ?_
            clear H94; intro a95 H95
            refine qplain (y_loadR rfl z_agg3 rfl (rd_row (by repeat (first | exact Mh | apply Mt))) (by simp only [Int.toNat_natCast, Nat.zero_add, Nat.add_zero]; exact (show _ = some (i64 ((Auction.counts (l.take k) fs r fl).getD j Note.Bid.zero).who) from Auction.bdc_at (c := 1) hcw hjC (by omega)))) rfl rfl rfl H95 ?_
            clear H95; intro a96 H96
            refine qplain (y_fieldB rfl z_field30_1 rfl (by first | (simp only [Nat.zero_add, Nat.add_zero, Nat.reduceAdd]; rfl) | rfl)) rfl rfl rfl H96 ?_
            clear H96; intro a97 H97
            refine qplain (y_loadB rfl z_agg3 rfl (by repeat (first | exact Mh | apply Mt)) q_ix_c4b32_1) rfl rfl rfl H97 ?_
            clear H97; intro a98 H98
            refine qplain (y_eql rfl rfl rfl) rfl rfl rfl H98 ?_
            clear H98; intro a99 H99
            refine qfin H99 ?_
            clear H99; intro wx100 H100
            refine then_n ?_
            refine cnd H100 rfl (fun hc101 => ?_) (fun hc101 => ?_) -- cond 4
            · skip
              try simp only [decide_eq_true_eq, decide_eq_false_iff_not, Bool.not_eq_true', Bool.not_eq_false', Bool.and_eq_true, Bool.not_eq_true, Bool.not_eq_false] at hc101
              refine reg ?_
              refine plain (y_assign rfl rfl) rfl rfl rfl H100 ?_
              clear H100; intro a102 H102
              refine fin ?_
              refine inb_n ?_
              refine then_n ?_
              refine reg ?_
              refine plain (y_move rfl rfl) rfl rfl rfl H102 ?_
              clear H102; intro a103 H103
              refine plain (y_add rfl rfl rfl (by first | exact w64 (by omega) (by omega) | rfl)) rfl rfl rfl H103 ?_
              clear H103; intro a104 H104
              refine plain (y_assign rfl rfl) rfl rfl rfl H104 ?_
              clear H104; intro a105 H105
              refine fin ?_
              refine then_n ?_
              first | (refine ⟨(j + 1, _), by dsimp only; omega, ⟨by dsimp only; omega, ?_⟩, H105.weak ⟨by first | rfl | exact fi rfl (by dsimp only; omega), by first | rfl | exact fi rfl (by dsimp only; omega), by first | rfl | exact fi rfl (by dsimp only; omega), by first | rfl | exact fi rfl (by dsimp only; omega), by first | rfl | exact fi rfl (by dsimp only; omega), by first | rfl | exact fi rfl (by dsimp only; omega), by first | rfl | exact fi rfl (by dsimp only; omega), by first | rfl | exact fi rfl (by dsimp only; omega), by first | rfl | exact fi rfl (by dsimp only; omega), by first | rfl | exact fi rfl (by dsimp only; omega), trivial⟩ rfl⟩ <;> (dsimp only; first | (rw [hq, Auction.sees_yes hjC (by assumption)]) | (rw [Auction.sees_no hjC (by assumption), Bool.and_false])))
            · skip
              try simp only [decide_eq_true_eq, decide_eq_false_iff_not, Bool.not_eq_true', Bool.not_eq_false', Bool.and_eq_true, Bool.not_eq_true, Bool.not_eq_false] at hc101
              refine wp_skip ?_
              refine inb_n ?_
              refine then_n ?_
              refine reg ?_
              refine plain (y_move rfl rfl) rfl rfl rfl H100 ?_
              clear H100; intro a106 H106
              refine plain (y_add rfl rfl rfl (by first | exact w64 (by omega) (by omega) | rfl)) rfl rfl rfl H106 ?_
              clear H106; intro a107 H107
              refine plain (y_assign rfl rfl) rfl rfl rfl H107 ?_
              clear H107; intro a108 H108
              refine fin ?_
              refine then_n ?_
              first | (refine ⟨(j + 1, _), by dsimp only; omega, ⟨by dsimp only; omega, ?_⟩, H108.weak ⟨by first | rfl | exact fi rfl (by dsimp only; omega), by first | rfl | exact fi rfl (by dsimp only; omega), by first | rfl | exact fi rfl (by dsimp only; omega), by first | rfl | exact fi rfl (by dsimp only; omega), by first | rfl | exact fi rfl (by dsimp only; omega), by first | rfl | exact fi rfl (by dsimp only; omega), by first | rfl | exact fi rfl (by dsimp only; omega), by first | rfl | exact fi rfl (by dsimp only; omega), by first | rfl | exact fi rfl (by dsimp only; omega), by first | rfl | exact fi rfl (by dsimp only; omega), trivial⟩ rfl⟩ <;> (dsimp only; first | (rw [hq, Auction.sees_yes hjC (by assumption)]) | (rw [Auction.sees_no hjC (by assumption), Bool.and_false])))
          · skip
            try simp only [decide_eq_true_eq, decide_eq_false_iff_not, Bool.not_eq_true', Bool.not_eq_false', Bool.and_eq_true, Bool.not_eq_true, Bool.not_eq_false] at hc90
            refine wp_exit ?_
            refine then_x ?_
            refine then_x ?_
            refine inb_hit ?_
            refine then_n ?_
            refine wp_seq ?_
            have hq2 := hq
            rw [Auction.sees_all (by omega)] at hq2
            refine reg ?_
            refine plain (y_move rfl rfl) rfl rfl rfl H89 ?_
            clear H89; intro a109 H109
            refine plain (y_move rfl rfl) rfl rfl rfl H109 ?_
            clear H109; intro a110 H110
            refine Sx.part (d := 68) H110 rfl (fun hg111 => ?_) (fun hg111 => ?_)
            · first
              | fail
              | skip
                clear H110; intro H112
                try simp only [decide_eq_true_eq, decide_eq_false_iff_not, Bool.not_eq_true', Bool.not_eq_false', Bool.and_eq_true, Bool.not_eq_true, Bool.not_eq_false] at hg111
                have hgf := hg111
                rw [hq2] at hgf
                simp only [Bool.and_eq_true, decide_eq_true_eq] at hgf
                refine plain (y_fieldB rfl z_field30_2 rfl (by first | (simp only [Nat.zero_add, Nat.add_zero, Nat.reduceAdd]; rfl) | rfl)) rfl rfl rfl H112 ?_
                clear H112; intro a113 H113
                refine plain (y_loadB rfl z_agg3 rfl (by repeat (first | exact Mh | apply Mt)) q_ix_c4b32_2) rfl rfl rfl H113 ?_
                clear H113; intro a114 H114
                refine plain (y_move rfl rfl) rfl rfl rfl H114 ?_
                clear H114; intro a115 H115
                refine plain (y_leq rfl rfl rfl) rfl rfl rfl H115 ?_
                clear H115; intro a116 H116
                refine plain (y_pick_t rfl rfl rfl) rfl rfl rfl H116 ?_
                clear H116; intro a117 H117
                refine fin ?_
                refine then_n ?_
                refine cnd H117 rfl (fun hc118 => ?_) (fun hc118 => ?_) -- cond 5
                · skip
                  try simp only [decide_eq_true_eq, decide_eq_false_iff_not, Bool.not_eq_true', Bool.not_eq_false', Bool.and_eq_true, Bool.not_eq_true, Bool.not_eq_false] at hc118
                  have hle := hc118
                  rw [if_pos hgf.1] at hle
                  have isYes := True.intro
                  refine reg ?_
                  refine plain (y_move rfl rfl) rfl rfl rfl H117 ?_
                  clear H117; intro a119 H119
                  refine plain (y_loadAB rfl z_agg30 z_size30 rfl (by repeat (first | exact Mh | apply Mt)) (q_ld_c4b32_0_36 (by assumption)) (q_len_c4b32 (by assumption))) rfl rfl rfl H119 ?_
                  clear H119; intro a120 H120
                  refine st_buildSlice rfl Tryd.underlying22 z_size30 z_zero30 rfl rfl rfl (lay_agg (agg_cells _) (Auction.bid_len htg) (by simp)) rfl rfl rfl H120 ?_
                  clear H120; intro b121 a121 wx121 H121
                  refine st_append rfl z_slice22 z_notint22 rfl rfl (fun _ => (by repeat (first | exact Uh | apply Ut))) (fun w hs => Src.slice ((rd_blkA (by repeat (first | exact Mh | apply Mt))) w hs) (Auction.bid_len htg) (Auction.bid_cell _)) (by unfold maxLen at *; first | omega | (simp only [List.length_cons, List.length_nil, List.length_append, List.length_map]; omega)) (by omega) rfl rfl rfl H121 ?_
                  clear H121; intro v122 a122 wx122 hnil122 H122
                  obtain ⟨Ar122, cr122, hvr122, hRr122, hmr122⟩ := row_shape (v := v122) H122.sep (by repeat (first | exact Mh | apply Mt))
                  subst hvr122
                  refine plain (y_assign rfl rfl) rfl rfl rfl H122 ?_
                  clear H122; intro a123 H123
                  refine fin ?_
                  refine inb_n ?_
                  refine then_n ?_
                  refine reg ?_
                  refine plain (y_move rfl rfl) rfl rfl rfl H123 ?_
                  clear H123; intro a124 H124
                  refine plain (y_add rfl rfl rfl (by first | exact w64 (by omega) (by omega) | rfl)) rfl rfl rfl H124 ?_
                  clear H124; intro a125 H125
                  refine plain (y_assign rfl rfl) rfl rfl rfl H125 ?_
                  clear H125; intro a126 H126
                  refine fin ?_
                  refine then_n ?_
                  first | (have hz := isYes; refine ⟨(k + 1, _), by dsimp only; omega, by dsimp only; omega, (H126.drop (List.Sublist.cons _ (List.Sublist.cons _ (List.Sublist.refl _)))).weak ⟨by first | rfl | exact fi rfl (by dsimp only; omega), by first | rfl | exact fi rfl (by dsimp only; omega), by first | rfl | exact fi rfl (by dsimp only; omega), by first | rfl | exact fi rfl (by dsimp only; omega), by first | rfl | exact fi rfl (by dsimp only; omega), by first | rfl | exact fi rfl (by dsimp only; omega), trivial⟩ ?_⟩ <;> (rw [Auction.counts_good (by omega) hgf hle, Auction.bdc_append, Auction.bdc_one]; all_goals (simp; try rfl))) | (refine ⟨(k + 1, .slice Av (Auction.counts (l.take k) fs r fl).length cv), by dsimp only; omega, by dsimp only; omega, (H126.drop (List.Sublist.cons _ (List.Sublist.refl _))).weak ⟨by first | rfl | exact fi rfl (by dsimp only; omega), by first | rfl | exact fi rfl (by dsimp only; omega), by first | rfl | exact fi rfl (by dsimp only; omega), by first | rfl | exact fi rfl (by dsimp only; omega), by first | rfl | exact fi rfl (by dsimp only; omega), by first | rfl | exact fi rfl (by dsimp only; omega), trivial⟩ ?_⟩ <;> (rw [Auction.counts_bad (by omega) (fun x => hgf x.1)]; try rfl)) | (refine ⟨(k + 1, .slice Av (Auction.counts (l.take k) fs r fl).length cv), by dsimp only; omega, by dsimp only; omega, (H126.drop (List.Sublist.cons _ (List.Sublist.refl _))).weak ⟨by first | rfl | exact fi rfl (by dsimp only; omega), by first | rfl | exact fi rfl (by dsimp only; omega), by first | rfl | exact fi rfl (by dsimp only; omega), by first | rfl | exact fi rfl (by dsimp only; omega), by first | rfl | exact fi rfl (by dsimp only; omega), by first | rfl | exact fi rfl (by dsimp only; omega), trivial⟩ ?_⟩ <;> (rw [Auction.counts_bad (by omega) (fun x => hle x.2)]; try rfl))
                · skip
                  try simp only [decide_eq_true_eq, decide_eq_false_iff_not, Bool.not_eq_true', Bool.not_eq_false', Bool.and_eq_true, Bool.not_eq_true, Bool.not_eq_false] at hc118
                  have hle := hc118
                  rw [if_pos hgf.1] at hle
                  refine wp_skip ?_
                  refine inb_n ?_
                  refine then_n ?_
                  refine reg ?_
                  refine plain (y_move rfl rfl) rfl rfl rfl H117 ?_
                  clear H117; intro a127 H127
                  refine plain (y_add rfl rfl rfl (by first | exact w64 (by omega) (by omega) | rfl)) rfl rfl rfl H127 ?_
                  clear H127; intro a128 H128
                  refine plain (y_assign rfl rfl) rfl rfl rfl H128 ?_
                  clear H128; intro a129 H129
                  refine fin ?_
                  refine then_n ?_
                  first | (have hz := isYes; refine ⟨(k + 1, _), by dsimp only; omega, by dsimp only; omega, (H129.drop (List.Sublist.cons _ (List.Sublist.cons _ (List.Sublist.refl _)))).weak ⟨by first | rfl | exact fi rfl (by dsimp only; omega), by first | rfl | exact fi rfl (by dsimp only; omega), by first | rfl | exact fi rfl (by dsimp only; omega), by first | rfl | exact fi rfl (by dsimp only; omega), by first | rfl | exact fi rfl (by dsimp only; omega), by first | rfl | exact fi rfl (by dsimp only; omega), trivial⟩ ?_⟩ <;> (rw [Auction.counts_good (by omega) hgf hle, Auction.bdc_append, Auction.bdc_one]; all_goals (simp; try rfl))) | (refine ⟨(k + 1, .slice Av (Auction.counts (l.take k) fs r fl).length cv), by dsimp only; omega, by dsimp only; omega, (H129.drop (List.Sublist.cons _ (List.Sublist.refl _))).weak ⟨by first | rfl | exact fi rfl (by dsimp only; omega), by first | rfl | exact fi rfl (by dsimp only; omega), by first | rfl | exact fi rfl (by dsimp only; omega), by first | rfl | exact fi rfl (by dsimp only; omega), by first | rfl | exact fi rfl (by dsimp only; omega), by first | rfl | exact fi rfl (by dsimp only; omega), trivial⟩ ?_⟩ <;> (rw [Auction.counts_bad (by omega) (fun x => hgf x.1)]; try rfl)) | (refine ⟨(k + 1, .slice Av (Auction.counts (l.take k) fs r fl).length cv), by dsimp only; omega, by dsimp only; omega, (H129.drop (List.Sublist.cons _ (List.Sublist.refl _))).weak ⟨by first | rfl | exact fi rfl (by dsimp only; omega), by first | rfl | exact fi rfl (by dsimp only; omega), by first | rfl | exact fi rfl (by dsimp only; omega), by first | rfl | exact fi rfl (by dsimp only; omega), by first | rfl | exact fi rfl (by dsimp only; omega), by first | rfl | exact fi rfl (by dsimp only; omega), trivial⟩ ?_⟩ <;> (rw [Auction.counts_bad (by omega) (fun x => hle x.2)]; try rfl))
            · first
              | fail
              | skip
                clear H110; intro H130
                try simp only [decide_eq_true_eq, decide_eq_false_iff_not, Bool.not_eq_true', Bool.not_eq_false', Bool.and_eq_true, Bool.not_eq_true, Bool.not_eq_false] at hg111
                have hgf : ¬ ((Auction.good r fl (l.getD k Note.Bid.zero)) ∧ Auction.fresh (Auction.counts (l.take k) fs r fl) (l.getD k Note.Bid.zero)) := fun z => by (rw [hq2, decide_eq_true z.1, decide_eq_true z.2] at hg111; simp at hg111)
                refine skip rfl rfl rfl H130 ?_
                clear H130; intro a131 H131
                refine skip rfl rfl rfl H131 ?_
                clear H131; intro a132 H132
                refine skip rfl rfl rfl H132 ?_
                clear H132; intro a133 H133
                refine skip rfl rfl rfl H133 ?_
                clear H133; intro a134 H134
                refine plain (y_pick_f rfl rfl rfl) rfl rfl rfl H134 ?_
                clear H134; intro a135 H135
                refine fin ?_
                refine then_n ?_
                refine cnd_f H135 rfl ?_
                refine wp_skip ?_
                refine inb_n ?_
                refine then_n ?_
                refine reg ?_
                refine plain (y_move rfl rfl) rfl rfl rfl H135 ?_
                clear H135; intro a137 H137
                refine plain (y_add rfl rfl rfl (by first | exact w64 (by omega) (by omega) | rfl)) rfl rfl rfl H137 ?_
                clear H137; intro a138 H138
                refine plain (y_assign rfl rfl) rfl rfl rfl H138 ?_
                clear H138; intro a139 H139
                refine fin ?_
                refine then_n ?_
                first | (have hz := isYes; refine ⟨(k + 1, _), by dsimp only; omega, by dsimp only; omega, (H139.drop (List.Sublist.cons _ (List.Sublist.cons _ (List.Sublist.refl _)))).weak ⟨by first | rfl | exact fi rfl (by dsimp only; omega), by first | rfl | exact fi rfl (by dsimp only; omega), by first | rfl | exact fi rfl (by dsimp only; omega), by first | rfl | exact fi rfl (by dsimp only; omega), by first | rfl | exact fi rfl (by dsimp only; omega), by first | rfl | exact fi rfl (by dsimp only; omega), trivial⟩ ?_⟩ <;> (rw [Auction.counts_good (by omega) hgf hle, Auction.bdc_append, Auction.bdc_one]; all_goals (simp; try rfl))) | (refine ⟨(k + 1, .slice Av (Auction.counts (l.take k) fs r fl).length cv), by dsimp only; omega, by dsimp only; omega, (H139.drop (List.Sublist.cons _ (List.Sublist.refl _))).weak ⟨by first | rfl | exact fi rfl (by dsimp only; omega), by first | rfl | exact fi rfl (by dsimp only; omega), by first | rfl | exact fi rfl (by dsimp only; omega), by first | rfl | exact fi rfl (by dsimp only; omega), by first | rfl | exact fi rfl (by dsimp only; omega), by first | rfl | exact fi rfl (by dsimp only; omega), trivial⟩ ?_⟩ <;> (rw [Auction.counts_bad (by omega) (fun x => hgf x.1)]; try rfl)) | (refine ⟨(k + 1, .slice Av (Auction.counts (l.take k) fs r fl).length cv), by dsimp only; omega, by dsimp only; omega, (H139.drop (List.Sublist.cons _ (List.Sublist.refl _))).weak ⟨by first | rfl | exact fi rfl (by dsimp only; omega), by first | rfl | exact fi rfl (by dsimp only; omega), by first | rfl | exact fi rfl (by dsimp only; omega), by first | rfl | exact fi rfl (by dsimp only; omega), by first | rfl | exact fi rfl (by dsimp only; omega), by first | rfl | exact fi rfl (by dsimp only; omega), trivial⟩ ?_⟩ <;> (rw [Auction.counts_bad (by omega) (fun x => hle x.2)]; try rfl))
  · skip
    try simp only [decide_eq_true_eq, decide_eq_false_iff_not, Bool.not_eq_true', Bool.not_eq_false', Bool.and_eq_true, Bool.not_eq_true, Bool.not_eq_false] at hc9
    refine wp_exit ?_
    refine then_x ?_
    refine then_x ?_
    refine inb_hit ?_
    refine then_n ?_
    refine wp_seq ?_
    refine reg ?_
    refine plain (y_move rfl rfl) rfl rfl rfl H8 ?_
    clear H8; intro a140 H140
    refine plain (y_assign rfl rfl) rfl rfl rfl H140 ?_
    clear H140; intro a141 H141
    refine fin ?_
    refine then_n ?_
    refine wp_ret ?_
    -- return 1
    refine ret1 rfl H141 rfl ?_
    refine ⟨_, _, rfl, ?_, H141.sep.sub (List.Sublist.cons_cons _ (List.nil_sublist _))⟩
    rw [List.take_of_length_le (by omega)]

end Go.Proofs.YtaeahloenahelaaDoor.A_RCnt
