/- Part of a proof about given Go functions: contracts of functions, or plain laws. -/
import Derived.Test.YtlaojmcpiggfeaaSxG
import Derived.Test.YtlaojmcpiggfeaaOct2
import Derived.Test.YtlaojmcpiggfeaaProg
import Derived.Test.YtlaojmcpiggfeaaTNum
import Derived.Test.YtlaojmcpiggfeaaTRead
import Derived.Test.YtlaojmcpiggfeaaTLaw
set_option linter.unusedVariables false
set_option linter.unusedSimpArgs false
namespace Go.Proofs.Ytlaojmcpiggfeaa.TLaw5
open Go.Sx Go.RowKit Go.Proofs.Ytlaojmcpiggfeaa.TNum Go.Proofs.Ytlaojmcpiggfeaa.TRead Go.Proofs.Ytlaojmcpiggfeaa.TLaw

theorem z_call39 : callB Try.prog 39 = true := by kernel_rfl
theorem z_call18 : callB Try.prog 18 = true := by kernel_rfl
theorem z_call41 : callB Try.prog 41 = true := by kernel_rfl

set_option maxRecDepth 100000 in
set_option maxHeartbeats 2000000 in
theorem octetsBehind (s : List UInt8) (p : Int) (t : List UInt8) (hs : s.length ≤ 140737488351232) (ht : t.length ≤ 140737488351232) (hp : -9223372036854775808 ≤ p ∧ p ≤ 9223372036854775807) (w : World) : Calls Try.prog 11 #[str s, .int .i64 p, str t] w (Gives (.bool true) [] w) := by
  refine enterL (args := [str s, .int .i64 p, str t]) Try.func11 rfl rfl (l := []) (Sep.refl _) ?_
  intro a0 H0
  refine wp_seq ?_
  refine reg ?_
  refine plain (y_assign rfl rfl) rfl rfl rfl H0 ?_
  clear H0; intro a1 H1
  refine fin ?_
  refine then_n ?_
  refine wp_seq ?_
  refine reg ?_
  refine plain (y_move rfl rfl) rfl rfl rfl H1 ?_
  clear H1; intro a2 H2
  refine plain (y_move rfl rfl) rfl rfl rfl H2 ?_
  clear H2; intro a3 H3
  refine st_call rfl z_call39 rfl rfl rfl rfl H3 (rlst s p (by omega) hp _) ?_
  clear H3; intro v4 l4 a4 w4 hf4 H4
  obtain ⟨u4, rfl, rfl⟩ := hf4
  simp only [List.cons_append, List.nil_append] at H4
  obtain ⟨A4, c4, hv4, hR4, hm4⟩ := row_shape (v := u4) H4.sep (by repeat (first | exact List.Mem.head _ | apply List.Mem.tail))
  subst hv4
  refine plain (y_move rfl rfl) rfl rfl rfl H4 ?_
  clear H4; intro a5 H5
  refine plain (y_extract rfl rfl rfl) rfl rfl rfl H5 ?_
  clear H5; intro a6 H6
  refine plain (y_extract rfl rfl rfl) rfl rfl rfl H6 ?_
  clear H6; intro a7 H7
  refine plain (y_extract rfl rfl rfl) rfl rfl rfl H7 ?_
  clear H7; intro a8 H8
  refine plain (y_assign rfl rfl) rfl rfl rfl H8 ?_
  clear H8; intro a9 H9
  refine plain (y_assign rfl rfl) rfl rfl rfl H9 ?_
  clear H9; intro a10 H10
  refine plain (y_assign rfl rfl) rfl rfl rfl H10 ?_
  clear H10; intro a11 H11
  refine fin ?_
  refine then_n ?_
  refine wp_seq ?_
  refine reg ?_
  refine plain (y_move rfl rfl) rfl rfl rfl H11 ?_
  clear H11; intro a12 H12
  refine plain (y_move rfl rfl) rfl rfl rfl H12 ?_
  clear H12; intro a13 H13
  refine plain (y_sadd rfl rfl rfl (by omega)) rfl rfl rfl H13 ?_
  clear H13; intro a14 H14
  refine plain (y_move rfl rfl) rfl rfl rfl H14 ?_
  clear H14; intro a15 H15
  refine st_call rfl z_call39 rfl rfl rfl rfl H15 (rlst (s ++ t) p (by simp only [List.length_append]; omega) hp _) ?_
  clear H15; intro v16 l16 a16 w16 hf16 H16
  obtain ⟨u16, rfl, rfl⟩ := hf16
  simp only [List.cons_append, List.nil_append] at H16
  obtain ⟨A16, c16, hv16, hR16, hm16⟩ := row_shape (v := u16) H16.sep (List.Mem.head _)
  subst hv16
  refine plain (y_move rfl rfl) rfl rfl rfl H16 ?_
  clear H16; intro a17 H17
  refine plain (y_extract rfl rfl rfl) rfl rfl rfl H17 ?_
  clear H17; intro a18 H18
  refine plain (y_extract rfl rfl rfl) rfl rfl rfl H18 ?_
  clear H18; intro a19 H19
  refine plain (y_extract rfl rfl rfl) rfl rfl rfl H19 ?_
  clear H19; intro a20 H20
  refine plain (y_assign rfl rfl) rfl rfl rfl H20 ?_
  clear H20; intro a21 H21
  refine plain (y_assign rfl rfl) rfl rfl rfl H21 ?_
  clear H21; intro a22 H22
  refine plain (y_assign rfl rfl) rfl rfl rfl H22 ?_
  clear H22; intro a23 H23
  refine fin ?_
  refine then_n ?_
  refine wp_seq ?_
  refine wp_seq ?_
  refine reg ?_
  refine st_callg rfl z_call18 rfl rfl rfl rfl H23 (awake _) ?_
  clear H23; intro a24 w24 H24
  refine plain (y_not rfl rfl) rfl rfl rfl H24 ?_
  clear H24; intro a25 H25
  refine plain (y_move rfl rfl) rfl rfl rfl H25 ?_
  clear H25; intro a26 H26
  refine plain (y_move rfl rfl) rfl rfl rfl H26 ?_
  clear H26; intro a27 H27
  refine plain (y_eql rfl rfl rfl) rfl rfl rfl H27 ?_
  clear H27; intro a28 H28
  refine plain (y_pick_f rfl rfl rfl) rfl rfl rfl H28 ?_
  clear H28; intro a29 H29
  refine plain (y_move rfl rfl) rfl rfl rfl H29 ?_
  clear H29; intro a30 H30
  refine part_d (d := 35) H30 rfl (fun hg31 => ?_) (fun hg31 => ?_)
  · first
    | fail
    | skip
      clear H30; intro H32
      refine skip rfl rfl rfl H32 ?_
      clear H32; intro a33 H33
      refine skip rfl rfl rfl H33 ?_
      clear H33; intro a34 H34
      refine plain (y_pick_t rfl rfl rfl) rfl rfl rfl H34 ?_
      clear H34; intro a35 H35
      refine fin ?_
      refine then_n ?_
      refine cnd_t H35 rfl ?_
      refine wp_seq ?_
      refine reg ?_
      refine st_callg rfl z_call18 rfl rfl rfl rfl H35 (awake _) ?_
      clear H35; intro a37 w37 H37
      refine plain (y_assign rfl rfl) rfl rfl rfl H37 ?_
      clear H37; intro a38 H38
      refine fin ?_
      refine then_n ?_
      refine wp_ret ?_
      refine then_r ?_
      -- return 1
      refine ret1 rfl H38 rfl ?_
      exact ⟨_, [], rfl, ⟨rfl, rfl⟩, H38.sep.sub (List.nil_sublist _)⟩
  · first
    | fail
    | skip
      clear H30; intro H39
      refine plain (y_move rfl rfl) rfl rfl rfl H39 ?_
      clear H39; intro a40 H40
      refine plain (y_eql rfl rfl rfl) rfl rfl rfl H40 ?_
      clear H40; intro a41 H41
      refine plain (y_pick_f rfl rfl rfl) rfl rfl rfl H41 ?_
      clear H41; intro a42 H42
      refine fin ?_
      refine then_n ?_
      refine cnd_d H42 rfl (fun hc43 => ?_) (fun hc43 => ?_)
      · skip
        refine wp_seq ?_
        refine reg ?_
        refine st_callg rfl z_call18 rfl rfl rfl rfl H42 (awake _) ?_
        clear H42; intro a44 w44 H44
        refine plain (y_assign rfl rfl) rfl rfl rfl H44 ?_
        clear H44; intro a45 H45
        refine fin ?_
        refine then_n ?_
        refine wp_ret ?_
        refine then_r ?_
        -- return 2
        refine ret1 rfl H45 rfl ?_
        exact ⟨_, [], rfl, ⟨rfl, rfl⟩, H45.sep.sub (List.nil_sublist _)⟩
      · skip
        have hmr := Oct.rdl_more s t (p := p) hc43 (by omega)
        refine wp_skip ?_
        refine then_n ?_
        refine wp_seq ?_
        refine reg ?_
        refine plain (y_move rfl rfl) rfl rfl rfl H42 ?_
        clear H42; intro a46 H46
        refine plain (y_move rfl rfl) rfl rfl rfl H46 ?_
        clear H46; intro a47 H47
        refine st_callg rfl z_call41 rfl rfl rfl rfl H47 (same (Oct.rdl s p).1 (Oct.rdl (s ++ t) p).1 _ _ _ _ _ _ rfl rfl (Rd.ofSep (rd_row (List.Mem.tail _ (List.Mem.head _))) H47.sep) (Rd.ofSep (rd_row (List.Mem.head _)) H47.sep) (Nat.le_trans Oct.rdl_len (by omega))) ?_
        clear H47; intro a48 w48 H48
        refine plain (y_move rfl rfl) rfl rfl rfl H48 ?_
        clear H48; intro a49 H49
        have H51 := H49.know (d := 43) (v := .bool true) rfl (congrArg Value.bool (decide_eq_true (by rw [hmr])))
        clear H49
        refine plain (y_move rfl rfl) rfl rfl rfl H51 ?_
        clear H51; intro a52 H52
        refine plain (y_move rfl rfl) rfl rfl rfl H52 ?_
        clear H52; intro a53 H53
        refine plain (y_eql rfl rfl rfl) rfl rfl rfl H53 ?_
        clear H53; intro a54 H54
        refine plain (y_pick_t rfl rfl rfl) rfl rfl rfl H54 ?_
        clear H54; intro a55 H55
        refine plain (y_move rfl rfl) rfl rfl rfl H55 ?_
        clear H55; intro a56 H56
        have H58 := H56.know (d := 48) (v := .bool true) rfl (congrArg Value.bool (decide_eq_true (by rw [hmr])))
        clear H56
        refine plain (y_move rfl rfl) rfl rfl rfl H58 ?_
        clear H58; intro a59 H59
        refine plain (y_move rfl rfl) rfl rfl rfl H59 ?_
        clear H59; intro a60 H60
        refine plain (y_eql rfl rfl rfl) rfl rfl rfl H60 ?_
        clear H60; intro a61 H61
        refine plain (y_pick_t rfl rfl rfl) rfl rfl rfl H61 ?_
        clear H61; intro a62 H62
        refine plain (y_assign rfl rfl) rfl rfl rfl H62 ?_
        clear H62; intro a63 H63
        refine fin ?_
        refine then_n ?_
        refine wp_ret ?_
        -- return 3
        refine ret1 rfl H63 rfl ?_
        exact ⟨_, [], rfl, ⟨congrArg Value.bool (decide_eq_true (by rw [hmr])), rfl⟩, H63.sep.sub (List.nil_sublist _)⟩

end Go.Proofs.Ytlaojmcpiggfeaa.TLaw5
