/- Part of a proof about given Go functions: contracts of functions, or plain laws. -/
import Derived.Test.YtlaojmcpiggfeaaSxH
import Derived.Test.YtlaojmcpiggfeaaBank
import Derived.Test.YtlaojmcpiggfeaaProg
set_option linter.unusedVariables false
set_option linter.unusedSimpArgs false
namespace Go.Proofs.Ytlaojmcpiggfeaa.TBank
open Go.Sx Go.RowKit

theorem z_size3 : sizeB Try.prog 3 = some 1 := by kernel_rfl
theorem z_agg3 : aggB Try.prog 3 = some false := by kernel_rfl
theorem z_zero3 : zeroL Try.prog 3 = some ([.int .i64 0]) := by kernel_rfl
theorem z_call45 : callB Try.prog 45 = true := by kernel_rfl
theorem z_field69_0 : fieldB Try.prog 69 0 = some 0 := by kernel_rfl

set_option maxRecDepth 100000 in
set_option maxHeartbeats 1000000 in
theorem wrong_ (p : Option Addr) (nl : Bool) (hn : p.isNone = nl) (amt : Int) (l : List Int) (A : Option Addr) (m c : Nat) (hm : m = l.length) {w : World} (hR : Rd w A (l.map i64)) (hl : l.length ≤ 9223372036854775807) : Calls Try.prog 45 #[.pointer p, .int .i64 amt, .slice A m c] w (Gives (.int .i64 (Bank.wrong nl amt l)) [] w) := by
  subst hm
  refine enterL (args := [.pointer p, .int .i64 amt, .slice A l.length c]) Try.func45 rfl rfl (l := []) (Sep.refl _) ?_
  intro a0 H0
  refine wp_seq ?_
  refine reg ?_
  refine plain (y_assign rfl rfl) rfl rfl rfl H0 ?_
  clear H0; intro a1 H1
  refine fin ?_
  refine then_n ?_
  refine wp_seq ?_
  refine wp_seq ?_
  refine reg ?_
  refine plain (y_move rfl rfl) rfl rfl rfl H1 ?_
  clear H1; intro a2 H2
  refine plain (y_peql rfl Try.underlying29 rfl rfl) rfl rfl rfl H2 ?_
  clear H2; intro a3 H3
  refine fin ?_
  refine then_n ?_
  refine cnd H3 rfl (fun hc4 => ?_) (fun hc4 => ?_) -- cond 1
  · skip
    have e0 : nl = true := by rw [← hn]; exact hc4
    refine wp_seq ?_
    refine reg ?_
    refine plain (y_assign rfl rfl) rfl rfl rfl H3 ?_
    clear H3; intro a5 H5
    refine fin ?_
    refine then_n ?_
    refine wp_ret ?_
    refine then_r ?_
    -- return 1
    refine ret1 rfl H5 rfl ?_
    exact ⟨_, [], rfl, ⟨by rw [e0, Bank.wrong_nil], rfl⟩, H5.sep.sub (List.nil_sublist _)⟩
  · skip
    have e0 : nl = false := by rw [← hn]; exact hc4
    refine wp_skip ?_
    refine then_n ?_
    refine wp_seq ?_
    refine wp_seq ?_
    refine reg ?_
    refine plain (y_move rfl rfl) rfl rfl rfl H3 ?_
    clear H3; intro a6 H6
    refine plain (y_len rfl Try.underlying39 rfl) rfl rfl rfl H6 ?_
    clear H6; intro a7 H7
    refine plain (y_move rfl rfl) rfl rfl rfl H7 ?_
    clear H7; intro a8 H8
    refine fin ?_
    refine then_n ?_
    refine wp_block ?_
    refine loop (ι := Nat) (fun k => [(1, .int .i64 amt), (11, .slice A l.length c), (12, .int .i64 (l.length : Int)), (13, .int .i64 (k : Int))]) (fun k => []) (fun k => k ≤ l.length ∧ Bank.Fine l k) (fun k => l.length - k) (0) ⟨Nat.zero_le _, Bank.Fine.zero l⟩ (H8.weak ⟨rfl, rfl, rfl, rfl, trivial⟩ rfl) ?_
    clear H8; intro k a9 w9 hok9 H9
    obtain ⟨hok, hfn⟩ := hok9
    refine wp_seq ?_
    refine reg ?_
    refine plain (y_lss rfl rfl rfl) rfl rfl rfl H9 ?_
    clear H9; intro a10 H10
    refine fin ?_
    refine then_n ?_
    refine wp_seq ?_
    refine cnd_d H10 rfl (fun hc11 => ?_) (fun hc11 => ?_) -- cond 2
    · skip
      refine wp_skip ?_
      refine then_n ?_
      refine wp_seq ?_
      refine wp_block ?_
      refine wp_seq ?_
      refine reg ?_
      refine plain (y_ixR rfl Try.underlying39 z_size3 rfl rfl (by omega) (by omega) (rd_old (by assumption) (by simp)) (by simp; omega)) rfl rfl rfl H10 ?_
      clear H10; intro a12 H12
      refine plain (y_loadR rfl z_agg3 rfl (rd_old (by assumption) (by simp)) (by simp only [Int.toNat_natCast, Nat.mul_one, Nat.add_zero]; exact i64_get _ _ (by omega))) rfl rfl rfl H12 ?_
      clear H12; intro a13 H13
      refine plain (y_assign rfl rfl) rfl rfl rfl H13 ?_
      clear H13; intro a14 H14
      refine fin ?_
      refine then_n ?_
      refine wp_seq ?_
      refine reg ?_
      refine plain (y_move rfl rfl) rfl rfl rfl H14 ?_
      clear H14; intro a15 H15
      refine plain (y_lss rfl rfl rfl) rfl rfl rfl H15 ?_
      clear H15; intro a16 H16
      refine plain (y_move rfl rfl) rfl rfl rfl H16 ?_
      clear H16; intro a17 H17
      refine part_d (d := 19) H17 rfl (fun hg18 => ?_) (fun hg18 => ?_)
      · first
        | fail
        | skip
          clear H17; intro H19
          refine skip rfl rfl rfl H19 ?_
          clear H19; intro a20 H20
          refine skip rfl rfl rfl H20 ?_
          clear H20; intro a21 H21
          refine plain (y_pick_t rfl rfl rfl) rfl rfl rfl H21 ?_
          clear H21; intro a22 H22
          refine fin ?_
          refine then_n ?_
          refine cnd_t H22 rfl ?_
          refine wp_seq ?_
          refine reg ?_
          refine plain (y_assign rfl rfl) rfl rfl rfl H22 ?_
          clear H22; intro a24 H24
          refine fin ?_
          refine then_n ?_
          refine wp_ret ?_
          refine inb_r ?_
          refine then_r ?_
          refine then_r ?_
          refine inb_r ?_
          refine then_r ?_
          -- return 2
          refine ret1 rfl H24 rfl ?_
          exact ⟨_, [], rfl, ⟨by rw [e0, Bank.wrong_who (k := k) (by omega) (by omega)], rfl⟩, H24.sep.sub (List.nil_sublist _)⟩
      · first
        | fail
        | skip
          clear H17; intro H25
          refine plain (y_move rfl rfl) rfl rfl rfl H25 ?_
          clear H25; intro a26 H26
          refine plain (y_geq rfl rfl rfl) rfl rfl rfl H26 ?_
          clear H26; intro a27 H27
          refine plain (y_pick_f rfl rfl rfl) rfl rfl rfl H27 ?_
          clear H27; intro a28 H28
          refine fin ?_
          refine then_n ?_
          refine cnd_d H28 rfl (fun hc29 => ?_) (fun hc29 => ?_) -- cond 4
          · skip
            refine wp_seq ?_
            refine reg ?_
            refine plain (y_assign rfl rfl) rfl rfl rfl H28 ?_
            clear H28; intro a30 H30
            refine fin ?_
            refine then_n ?_
            refine wp_ret ?_
            refine inb_r ?_
            refine then_r ?_
            refine then_r ?_
            refine inb_r ?_
            refine then_r ?_
            -- return 3
            refine ret1 rfl H30 rfl ?_
            exact ⟨_, [], rfl, ⟨by rw [e0, Bank.wrong_who (k := k) (by omega) (by omega)], rfl⟩, H30.sep.sub (List.nil_sublist _)⟩
          · skip
            refine wp_skip ?_
            refine inb_n ?_
            refine then_n ?_
            refine reg ?_
            refine plain (y_add rfl rfl rfl (by first | exact w64 (by omega) (by omega) | rfl)) rfl rfl rfl H28 ?_
            clear H28; intro a31 H31
            refine plain (y_move rfl rfl) rfl rfl rfl H31 ?_
            clear H31; intro a32 H32
            refine fin ?_
            refine then_n ?_
            refine ⟨k + 1, by omega, ⟨by omega, hfn.succ (by omega) (by assumption) (by assumption)⟩, H32.weak ⟨rfl, rfl, rfl, fi rfl (by omega), trivial⟩ rfl⟩
    · skip
      refine wp_exit ?_
      refine then_x ?_
      refine then_x ?_
      refine inb_hit ?_
      refine then_n ?_
      refine wp_seq ?_
      refine wp_seq ?_
      refine reg ?_
      refine plain (y_move rfl rfl) rfl rfl rfl H10 ?_
      clear H10; intro a33 H33
      refine plain (y_lss rfl rfl rfl) rfl rfl rfl H33 ?_
      clear H33; intro a34 H34
      refine plain (y_move rfl rfl) rfl rfl rfl H34 ?_
      clear H34; intro a35 H35
      refine part_d (d := 26) H35 rfl (fun hg36 => ?_) (fun hg36 => ?_)
      · first
        | fail
        | skip
          clear H35; intro H37
          refine skip rfl rfl rfl H37 ?_
          clear H37; intro a38 H38
          refine skip rfl rfl rfl H38 ?_
          clear H38; intro a39 H39
          refine plain (y_pick_t rfl rfl rfl) rfl rfl rfl H39 ?_
          clear H39; intro a40 H40
          refine fin ?_
          refine then_n ?_
          refine cnd_t H40 rfl ?_
          refine wp_seq ?_
          refine reg ?_
          refine plain (y_assign rfl rfl) rfl rfl rfl H40 ?_
          clear H40; intro a42 H42
          refine fin ?_
          refine then_n ?_
          refine wp_ret ?_
          refine then_r ?_
          -- return 4
          refine ret1 rfl H42 rfl ?_
          exact ⟨_, [], rfl, ⟨by rw [e0, Bank.wrong_amt (hfn.all (by omega)) (by omega)], rfl⟩, H42.sep.sub (List.nil_sublist _)⟩
      · first
        | fail
        | skip
          clear H35; intro H43
          refine plain (y_move rfl rfl) rfl rfl rfl H43 ?_
          clear H43; intro a44 H44
          refine plain (y_gtr rfl rfl rfl) rfl rfl rfl H44 ?_
          clear H44; intro a45 H45
          refine plain (y_pick_f rfl rfl rfl) rfl rfl rfl H45 ?_
          clear H45; intro a46 H46
          refine fin ?_
          refine then_n ?_
          refine cnd_d H46 rfl (fun hc47 => ?_) (fun hc47 => ?_) -- cond 6
          · skip
            refine wp_seq ?_
            refine reg ?_
            refine plain (y_assign rfl rfl) rfl rfl rfl H46 ?_
            clear H46; intro a48 H48
            refine fin ?_
            refine then_n ?_
            refine wp_ret ?_
            refine then_r ?_
            -- return 5
            refine ret1 rfl H48 rfl ?_
            exact ⟨_, [], rfl, ⟨by rw [e0, Bank.wrong_amt (hfn.all (by omega)) (by omega)], rfl⟩, H48.sep.sub (List.nil_sublist _)⟩
          · skip
            refine wp_skip ?_
            refine then_n ?_
            refine wp_seq ?_
            refine reg ?_
            refine plain (y_assign rfl rfl) rfl rfl rfl H46 ?_
            clear H46; intro a49 H49
            refine fin ?_
            refine then_n ?_
            refine wp_ret ?_
            -- return 6
            refine ret1 rfl H49 rfl ?_
            exact ⟨_, [], rfl, ⟨by rw [e0, Bank.wrong_ok (hfn.all (by omega)) (by omega)], rfl⟩, H49.sep.sub (List.nil_sublist _)⟩
set_option maxRecDepth 100000 in
set_option maxHeartbeats 2000000 in
theorem bput (b : Nat) (L : List Int) (hL : Bank.Ok L) (who amt : Int) {w : World} (hp : (It.blk b 69 (L.map i64)).P w) : Calls Try.prog 30 #[.pointer (some ⟨b, 0, none⟩), .int .i64 who, .int .i64 amt] w (Turns (.int .i64 (Bank.put L who amt).1) (It.blk b 69 (L.map i64)) (It.blk b 69 ((Bank.put L who amt).2.map i64)) w) := by
  refine enterL (args := [.pointer (some ⟨b, 0, none⟩), .int .i64 who, .int .i64 amt]) Try.func30 rfl rfl (l := [It.blk b 69 (L.map i64)]) (Sep.one hp) ?_
  intro a0 H0
  refine wp_seq ?_
  refine reg ?_
  refine plain (y_assign rfl rfl) rfl rfl rfl H0 ?_
  clear H0; intro a1 H1
  refine fin ?_
  refine then_n ?_
  refine wp_seq ?_
  refine wp_seq ?_
  refine reg ?_
  refine plain (y_move rfl rfl) rfl rfl rfl H1 ?_
  clear H1; intro a2 H2
  refine plain (y_move rfl rfl) rfl rfl rfl H2 ?_
  clear H2; intro a3 H3
  refine plain (y_move rfl rfl) rfl rfl rfl H3 ?_
  clear H3; intro a4 H4
  refine st_buildSlice1 (xs := [.tmp 10]) rfl Try.underlying39 z_size3 z_zero3 rfl rfl rfl rfl rfl rfl rfl rfl rfl H4 ?_
  clear H4; intro b5 a5 w5 H5
  refine st_callg rfl z_call45 rfl rfl rfl rfl H5 (wrong_ (some ⟨b, 0, none⟩) false rfl amt [who] _ _ _ rfl (Rd.ofSep (rd_blkA (by repeat (first | exact List.Mem.head _ | apply List.Mem.tail))) H5.sep) (by simp)) ?_
  clear H5; intro a6 w6 H6
  refine plain (y_assign rfl rfl) rfl rfl rfl H6 ?_
  clear H6; intro a7 H7
  refine fin ?_
  refine then_n ?_
  refine wp_seq ?_
  refine reg ?_
  refine plain (y_move rfl rfl) rfl rfl rfl H7 ?_
  clear H7; intro a8 H8
  refine plain (y_neq rfl rfl rfl) rfl rfl rfl H8 ?_
  clear H8; intro a9 H9
  refine fin ?_
  refine then_n ?_
  refine cnd_d H9 rfl (fun hc10 => ?_) (fun hc10 => ?_) -- cond 1
  · skip
    refine wp_seq ?_
    refine reg ?_
    refine plain (y_move rfl rfl) rfl rfl rfl H9 ?_
    clear H9; intro a11 H11
    refine plain (y_assign rfl rfl) rfl rfl rfl H11 ?_
    clear H11; intro a12 H12
    refine fin ?_
    refine then_n ?_
    refine wp_ret ?_
    refine then_r ?_
    -- return 1
    refine ret1 rfl H12 rfl ?_
    rw [Bank.put_bad (by omega)]; exact Turns.ret (H12.sep.sub (List.Sublist.cons _ (List.Sublist.refl _)))
  · skip
    have hw0 : Bank.wrong false amt [who] = 0 := by omega
    have hw := Bank.wrong1 (amt := amt) (who := who) hw0
    have hlen := hL.len
    have hk := hL.all who.toNat
    refine wp_skip ?_
    refine then_n ?_
    refine wp_seq ?_
    refine wp_seq ?_
    refine reg ?_
    refine plain (y_move rfl rfl) rfl rfl rfl H9 ?_
    clear H9; intro a13 H13
    refine plain (y_move rfl rfl) rfl rfl rfl H13 ?_
    clear H13; intro a14 H14
    refine plain (y_move rfl rfl) rfl rfl rfl H14 ?_
    clear H14; intro a15 H15
    refine plain (y_nilCheck rfl rfl) rfl rfl rfl H15 ?_
    clear H15; intro a16 H16
    refine plain (y_fieldB rfl z_field69_0 rfl (by first | (simp only [Nat.zero_add, Nat.add_zero, Nat.reduceAdd]; rfl) | rfl)) rfl rfl rfl H16 ?_
    clear H16; intro a17 H17
    refine plain (y_ixA rfl Try.underlying67 z_size3 rfl rfl (by omega) (by omega) rfl) rfl rfl rfl H17 ?_
    clear H17; intro a18 H18
    refine plain (y_loadB rfl z_agg3 rfl (by repeat (first | exact List.Mem.head _ | apply List.Mem.tail)) (i64_getI _ _ (by omega) (by omega))) rfl rfl rfl H18 ?_
    clear H18; intro a19 H19
    refine plain (y_sub rfl rfl rfl (by first | exact w64 (by omega) (by omega) | rfl)) rfl rfl rfl H19 ?_
    clear H19; intro a20 H20
    refine plain (y_gtr rfl rfl rfl) rfl rfl rfl H20 ?_
    clear H20; intro a21 H21
    refine fin ?_
    refine then_n ?_
    refine cnd_d H21 rfl (fun hc22 => ?_) (fun hc22 => ?_) -- cond 2
    · skip
      refine wp_seq ?_
      refine reg ?_
      refine plain (y_assign rfl rfl) rfl rfl rfl H21 ?_
      clear H21; intro a23 H23
      refine fin ?_
      refine then_n ?_
      refine wp_ret ?_
      refine then_r ?_
      -- return 2
      refine ret1 rfl H23 rfl ?_
      rw [Bank.put_big hw0 (by omega)]; exact Turns.ret (H23.sep.sub (List.Sublist.cons _ (List.Sublist.refl _)))
    · skip
      refine wp_skip ?_
      refine then_n ?_
      refine wp_seq ?_
      refine treg 11 (by kernel_rfl) (by kernel_rfl) H21 ?_
      clear H21; intro w24 H24
      refine tplain (y_move rfl rfl) rfl rfl rfl H24 ?_
      clear H24; intro a25 H25
      refine tplain (y_move rfl rfl) rfl rfl rfl H25 ?_
      clear H25; intro a26 H26
      refine tplain (y_nilCheck rfl rfl) rfl rfl rfl H26 ?_
      clear H26; intro a27 H27
      refine tplain (y_fieldB rfl z_field69_0 rfl (by first | (simp only [Nat.zero_add, Nat.add_zero, Nat.reduceAdd]; rfl) | rfl)) rfl rfl rfl H27 ?_
      clear H27; intro a28 H28
      refine tplain (y_ixA rfl Try.underlying67 z_size3 rfl rfl (by omega) (by omega) rfl) rfl rfl rfl H28 ?_
      clear H28; intro a29 H29
      refine tplain (y_loadB rfl z_agg3 rfl (by repeat (first | exact List.Mem.head _ | apply List.Mem.tail)) (i64_getI _ _ (by omega) (by omega))) rfl rfl rfl H29 ?_
      clear H29; intro a30 H30
      refine tplain (y_move rfl rfl) rfl rfl rfl H30 ?_
      clear H30; intro a31 H31
      refine tplain (y_add rfl rfl rfl (by first | exact w64 (by omega) (by omega) | rfl)) rfl rfl rfl H31 ?_
      clear H31; intro a32 H32
      refine tplain (y_nilCheck rfl rfl) rfl rfl rfl H32 ?_
      clear H32; intro a33 H33
      refine tplain (y_fieldB rfl z_field69_0 rfl (by first | (simp only [Nat.zero_add, Nat.add_zero, Nat.reduceAdd]; rfl) | rfl)) rfl rfl rfl H33 ?_
      clear H33; intro a34 H34
      refine tplain (y_ixA rfl Try.underlying67 z_size3 rfl rfl (by omega) (by omega) rfl) rfl rfl rfl H34 ?_
      clear H34; intro a35 H35
      refine tfin ?_
      refine st_store1 rfl z_size3 rfl rfl rfl (by repeat (first | exact Upd.head _ _ _ | apply Upd.tail)) (by first | decide | (simp; omega)) rfl rfl H35 ?_
      clear H35; intro w36 H36
      refine fin ?_
      refine then_n ?_
      refine wp_seq ?_
      refine reg ?_
      refine plain (y_assign rfl rfl) rfl rfl rfl H36 ?_
      clear H36; intro a37 H37
      refine fin ?_
      refine then_n ?_
      refine wp_ret ?_
      -- return 3
      refine ret1 rfl H37 rfl ?_
      rw [Bank.put_ok hw0 (by omega), ← i64_set]; exact Turns.ret (H37.sep.sub (List.Sublist.cons _ (List.Sublist.refl _)))
set_option maxRecDepth 100000 in
set_option maxHeartbeats 2000000 in
theorem btake (b : Nat) (L : List Int) (hL : Bank.Ok L) (who amt : Int) {w : World} (hp : (It.blk b 69 (L.map i64)).P w) : Calls Try.prog 31 #[.pointer (some ⟨b, 0, none⟩), .int .i64 who, .int .i64 amt] w (Turns (.int .i64 (Bank.take L who amt).1) (It.blk b 69 (L.map i64)) (It.blk b 69 ((Bank.take L who amt).2.map i64)) w) := by
  refine enterL (args := [.pointer (some ⟨b, 0, none⟩), .int .i64 who, .int .i64 amt]) Try.func31 rfl rfl (l := [It.blk b 69 (L.map i64)]) (Sep.one hp) ?_
  intro a0 H0
  refine wp_seq ?_
  refine reg ?_
  refine plain (y_assign rfl rfl) rfl rfl rfl H0 ?_
  clear H0; intro a1 H1
  refine fin ?_
  refine then_n ?_
  refine wp_seq ?_
  refine wp_seq ?_
  refine reg ?_
  refine plain (y_move rfl rfl) rfl rfl rfl H1 ?_
  clear H1; intro a2 H2
  refine plain (y_move rfl rfl) rfl rfl rfl H2 ?_
  clear H2; intro a3 H3
  refine plain (y_move rfl rfl) rfl rfl rfl H3 ?_
  clear H3; intro a4 H4
  refine st_buildSlice1 (xs := [.tmp 10]) rfl Try.underlying39 z_size3 z_zero3 rfl rfl rfl rfl rfl rfl rfl rfl rfl H4 ?_
  clear H4; intro b5 a5 w5 H5
  refine st_callg rfl z_call45 rfl rfl rfl rfl H5 (wrong_ (some ⟨b, 0, none⟩) false rfl amt [who] _ _ _ rfl (Rd.ofSep (rd_blkA (by repeat (first | exact List.Mem.head _ | apply List.Mem.tail))) H5.sep) (by simp)) ?_
  clear H5; intro a6 w6 H6
  refine plain (y_assign rfl rfl) rfl rfl rfl H6 ?_
  clear H6; intro a7 H7
  refine fin ?_
  refine then_n ?_
  refine wp_seq ?_
  refine reg ?_
  refine plain (y_move rfl rfl) rfl rfl rfl H7 ?_
  clear H7; intro a8 H8
  refine plain (y_neq rfl rfl rfl) rfl rfl rfl H8 ?_
  clear H8; intro a9 H9
  refine fin ?_
  refine then_n ?_
  refine cnd_d H9 rfl (fun hc10 => ?_) (fun hc10 => ?_) -- cond 1
  · skip
    refine wp_seq ?_
    refine reg ?_
    refine plain (y_move rfl rfl) rfl rfl rfl H9 ?_
    clear H9; intro a11 H11
    refine plain (y_assign rfl rfl) rfl rfl rfl H11 ?_
    clear H11; intro a12 H12
    refine fin ?_
    refine then_n ?_
    refine wp_ret ?_
    refine then_r ?_
    -- return 1
    refine ret1 rfl H12 rfl ?_
    rw [Bank.take_bad (by omega)]; exact Turns.ret (H12.sep.sub (List.Sublist.cons _ (List.Sublist.refl _)))
  · skip
    have hw0 : Bank.wrong false amt [who] = 0 := by omega
    have hw := Bank.wrong1 (amt := amt) (who := who) hw0
    have hlen := hL.len
    have hk := hL.all who.toNat
    refine wp_skip ?_
    refine then_n ?_
    refine wp_seq ?_
    refine wp_seq ?_
    refine reg ?_
    refine plain (y_move rfl rfl) rfl rfl rfl H9 ?_
    clear H9; intro a13 H13
    refine plain (y_move rfl rfl) rfl rfl rfl H13 ?_
    clear H13; intro a14 H14
    refine plain (y_nilCheck rfl rfl) rfl rfl rfl H14 ?_
    clear H14; intro a15 H15
    refine plain (y_fieldB rfl z_field69_0 rfl (by first | (simp only [Nat.zero_add, Nat.add_zero, Nat.reduceAdd]; rfl) | rfl)) rfl rfl rfl H15 ?_
    clear H15; intro a16 H16
    refine plain (y_ixA rfl Try.underlying67 z_size3 rfl rfl (by omega) (by omega) rfl) rfl rfl rfl H16 ?_
    clear H16; intro a17 H17
    refine plain (y_loadB rfl z_agg3 rfl (by repeat (first | exact List.Mem.head _ | apply List.Mem.tail)) (i64_getI _ _ (by omega) (by omega))) rfl rfl rfl H17 ?_
    clear H17; intro a18 H18
    refine plain (y_move rfl rfl) rfl rfl rfl H18 ?_
    clear H18; intro a19 H19
    refine plain (y_lss rfl rfl rfl) rfl rfl rfl H19 ?_
    clear H19; intro a20 H20
    refine fin ?_
    refine then_n ?_
    refine cnd_d H20 rfl (fun hc21 => ?_) (fun hc21 => ?_) -- cond 2
    · skip
      refine wp_seq ?_
      refine reg ?_
      refine plain (y_assign rfl rfl) rfl rfl rfl H20 ?_
      clear H20; intro a22 H22
      refine fin ?_
      refine then_n ?_
      refine wp_ret ?_
      refine then_r ?_
      -- return 2
      refine ret1 rfl H22 rfl ?_
      rw [Bank.take_few hw0 (by omega)]; exact Turns.ret (H22.sep.sub (List.Sublist.cons _ (List.Sublist.refl _)))
    · skip
      refine wp_skip ?_
      refine then_n ?_
      refine wp_seq ?_
      refine treg 11 (by kernel_rfl) (by kernel_rfl) H20 ?_
      clear H20; intro w23 H23
      refine tplain (y_move rfl rfl) rfl rfl rfl H23 ?_
      clear H23; intro a24 H24
      refine tplain (y_move rfl rfl) rfl rfl rfl H24 ?_
      clear H24; intro a25 H25
      refine tplain (y_nilCheck rfl rfl) rfl rfl rfl H25 ?_
      clear H25; intro a26 H26
      refine tplain (y_fieldB rfl z_field69_0 rfl (by first | (simp only [Nat.zero_add, Nat.add_zero, Nat.reduceAdd]; rfl) | rfl)) rfl rfl rfl H26 ?_
      clear H26; intro a27 H27
      refine tplain (y_ixA rfl Try.underlying67 z_size3 rfl rfl (by omega) (by omega) rfl) rfl rfl rfl H27 ?_
      clear H27; intro a28 H28
      refine tplain (y_loadB rfl z_agg3 rfl (by repeat (first | exact List.Mem.head _ | apply List.Mem.tail)) (i64_getI _ _ (by omega) (by omega))) rfl rfl rfl H28 ?_
      clear H28; intro a29 H29
      refine tplain (y_move rfl rfl) rfl rfl rfl H29 ?_
      clear H29; intro a30 H30
      refine tplain (y_sub rfl rfl rfl (by first | exact w64 (by omega) (by omega) | rfl)) rfl rfl rfl H30 ?_
      clear H30; intro a31 H31
      refine tplain (y_nilCheck rfl rfl) rfl rfl rfl H31 ?_
      clear H31; intro a32 H32
      refine tplain (y_fieldB rfl z_field69_0 rfl (by first | (simp only [Nat.zero_add, Nat.add_zero, Nat.reduceAdd]; rfl) | rfl)) rfl rfl rfl H32 ?_
      clear H32; intro a33 H33
      refine tplain (y_ixA rfl Try.underlying67 z_size3 rfl rfl (by omega) (by omega) rfl) rfl rfl rfl H33 ?_
      clear H33; intro a34 H34
      refine tfin ?_
      refine st_store1 rfl z_size3 rfl rfl rfl (by repeat (first | exact Upd.head _ _ _ | apply Upd.tail)) (by first | decide | (simp; omega)) rfl rfl H34 ?_
      clear H34; intro w35 H35
      refine fin ?_
      refine then_n ?_
      refine wp_seq ?_
      refine reg ?_
      refine plain (y_assign rfl rfl) rfl rfl rfl H35 ?_
      clear H35; intro a36 H36
      refine fin ?_
      refine then_n ?_
      refine wp_ret ?_
      -- return 3
      refine ret1 rfl H36 rfl ?_
      rw [Bank.take_ok hw0 (by omega), ← i64_set]; exact Turns.ret (H36.sep.sub (List.Sublist.cons _ (List.Sublist.refl _)))
set_option maxRecDepth 100000 in
set_option maxHeartbeats 2000000 in
theorem bmove (b : Nat) (L : List Int) (hL : Bank.Ok L) (f t amt : Int) {w : World} (hp : (It.blk b 69 (L.map i64)).P w) : Calls Try.prog 32 #[.pointer (some ⟨b, 0, none⟩), .int .i64 f, .int .i64 t, .int .i64 amt] w (Turns (.int .i64 (Bank.move L f t amt).1) (It.blk b 69 (L.map i64)) (It.blk b 69 ((Bank.move L f t amt).2.map i64)) w) := by
  refine enterL (args := [.pointer (some ⟨b, 0, none⟩), .int .i64 f, .int .i64 t, .int .i64 amt]) Try.func32 rfl rfl (l := [It.blk b 69 (L.map i64)]) (Sep.one hp) ?_
  intro a0 H0
  refine wp_seq ?_
  refine reg ?_
  refine plain (y_assign rfl rfl) rfl rfl rfl H0 ?_
  clear H0; intro a1 H1
  refine fin ?_
  refine then_n ?_
  refine wp_seq ?_
  refine wp_seq ?_
  refine reg ?_
  refine plain (y_move rfl rfl) rfl rfl rfl H1 ?_
  clear H1; intro a2 H2
  refine plain (y_move rfl rfl) rfl rfl rfl H2 ?_
  clear H2; intro a3 H3
  refine plain (y_move rfl rfl) rfl rfl rfl H3 ?_
  clear H3; intro a4 H4
  refine plain (y_move rfl rfl) rfl rfl rfl H4 ?_
  clear H4; intro a5 H5
  refine st_buildSlice1 (xs := [.tmp 12, .tmp 13]) rfl Try.underlying39 z_size3 z_zero3 rfl rfl rfl rfl rfl rfl rfl rfl rfl H5 ?_
  clear H5; intro b6 a6 w6 H6
  refine st_callg rfl z_call45 rfl rfl rfl rfl H6 (wrong_ (some ⟨b, 0, none⟩) false rfl amt [f, t] _ _ _ rfl (Rd.ofSep (rd_blkA (by repeat (first | exact List.Mem.head _ | apply List.Mem.tail))) H6.sep) (by simp)) ?_
  clear H6; intro a7 w7 H7
  refine plain (y_assign rfl rfl) rfl rfl rfl H7 ?_
  clear H7; intro a8 H8
  refine fin ?_
  refine then_n ?_
  refine wp_seq ?_
  refine reg ?_
  refine plain (y_move rfl rfl) rfl rfl rfl H8 ?_
  clear H8; intro a9 H9
  refine plain (y_neq rfl rfl rfl) rfl rfl rfl H9 ?_
  clear H9; intro a10 H10
  refine fin ?_
  refine then_n ?_
  refine cnd_d H10 rfl (fun hc11 => ?_) (fun hc11 => ?_) -- cond 1
  · skip
    refine wp_seq ?_
    refine reg ?_
    refine plain (y_move rfl rfl) rfl rfl rfl H10 ?_
    clear H10; intro a12 H12
    refine plain (y_assign rfl rfl) rfl rfl rfl H12 ?_
    clear H12; intro a13 H13
    refine fin ?_
    refine then_n ?_
    refine wp_ret ?_
    refine then_r ?_
    -- return 1
    refine ret1 rfl H13 rfl ?_
    rw [Bank.move_bad (by omega)]; exact Turns.ret (H13.sep.sub (List.Sublist.cons _ (List.Sublist.refl _)))
  · skip
    have hw0 : Bank.wrong false amt [f, t] = 0 := by omega
    have hw := Bank.wrong2 (amt := amt) (f := f) (t := t) hw0
    have hlen := hL.len
    have hkf := hL.all f.toNat
    have hkt := hL.all t.toNat
    refine wp_skip ?_
    refine then_n ?_
    refine wp_seq ?_
    refine wp_block ?_
    refine wp_seq ?_
    refine reg ?_
    refine plain (y_move rfl rfl) rfl rfl rfl H10 ?_
    clear H10; intro a14 H14
    refine plain (y_move rfl rfl) rfl rfl rfl H14 ?_
    clear H14; intro a15 H15
    refine plain (y_nilCheck rfl rfl) rfl rfl rfl H15 ?_
    clear H15; intro a16 H16
    refine plain (y_fieldB rfl z_field69_0 rfl (by first | (simp only [Nat.zero_add, Nat.add_zero, Nat.reduceAdd]; rfl) | rfl)) rfl rfl rfl H16 ?_
    clear H16; intro a17 H17
    refine plain (y_ixA rfl Try.underlying67 z_size3 rfl rfl (by omega) (by omega) rfl) rfl rfl rfl H17 ?_
    clear H17; intro a18 H18
    refine plain (y_loadB rfl z_agg3 rfl (by repeat (first | exact List.Mem.head _ | apply List.Mem.tail)) (i64_getI _ _ (by omega) (by omega))) rfl rfl rfl H18 ?_
    clear H18; intro a19 H19
    refine plain (y_move rfl rfl) rfl rfl rfl H19 ?_
    clear H19; intro a20 H20
    refine plain (y_lss rfl rfl rfl) rfl rfl rfl H20 ?_
    clear H20; intro a21 H21
    refine plain (y_assign rfl rfl) rfl rfl rfl H21 ?_
    clear H21; intro a22 H22
    refine fin ?_
    refine then_n ?_
    refine cnd_d H22 rfl (fun hc23 => ?_) (fun hc23 => ?_) -- cond 2
    · skip
      refine wp_seq ?_
      refine reg ?_
      refine plain (y_assign rfl rfl) rfl rfl rfl H22 ?_
      clear H22; intro a24 H24
      refine fin ?_
      refine then_n ?_
      refine wp_ret ?_
      refine inb_r ?_
      refine then_r ?_
      -- return 2
      refine ret1 rfl H24 rfl ?_
      rw [Bank.move_few hw0 (by omega)]; exact Turns.ret (H24.sep.sub (List.Sublist.cons _ (List.Sublist.refl _)))
    · skip
      refine wp_seq ?_
      refine reg ?_
      refine plain (y_move rfl rfl) rfl rfl rfl H22 ?_
      clear H22; intro a25 H25
      refine plain (y_move rfl rfl) rfl rfl rfl H25 ?_
      clear H25; intro a26 H26
      refine plain (y_neq rfl rfl rfl) rfl rfl rfl H26 ?_
      clear H26; intro a27 H27
      refine plain (y_move rfl rfl) rfl rfl rfl H27 ?_
      clear H27; intro a28 H28
      refine part_d (d := 32) H28 rfl (fun hg29 => ?_) (fun hg29 => ?_)
      · first
        | fail
        | skip
          clear H28; intro H30
          refine plain (y_move rfl rfl) rfl rfl rfl H30 ?_
          clear H30; intro a31 H31
          refine plain (y_move rfl rfl) rfl rfl rfl H31 ?_
          clear H31; intro a32 H32
          refine plain (y_move rfl rfl) rfl rfl rfl H32 ?_
          clear H32; intro a33 H33
          refine plain (y_nilCheck rfl rfl) rfl rfl rfl H33 ?_
          clear H33; intro a34 H34
          refine plain (y_fieldB rfl z_field69_0 rfl (by first | (simp only [Nat.zero_add, Nat.add_zero, Nat.reduceAdd]; rfl) | rfl)) rfl rfl rfl H34 ?_
          clear H34; intro a35 H35
          refine plain (y_ixA rfl Try.underlying67 z_size3 rfl rfl (by omega) (by omega) rfl) rfl rfl rfl H35 ?_
          clear H35; intro a36 H36
          refine plain (y_loadB rfl z_agg3 rfl (by repeat (first | exact List.Mem.head _ | apply List.Mem.tail)) (i64_getI _ _ (by omega) (by omega))) rfl rfl rfl H36 ?_
          clear H36; intro a37 H37
          refine plain (y_sub rfl rfl rfl (by first | exact w64 (by omega) (by omega) | rfl)) rfl rfl rfl H37 ?_
          clear H37; intro a38 H38
          refine plain (y_gtr rfl rfl rfl) rfl rfl rfl H38 ?_
          clear H38; intro a39 H39
          refine plain (y_pick_t rfl rfl rfl) rfl rfl rfl H39 ?_
          clear H39; intro a40 H40
          refine plain (y_assign rfl rfl) rfl rfl rfl H40 ?_
          clear H40; intro a41 H41
          refine fin ?_
          refine then_n ?_
          refine cnd_d H41 rfl (fun hc42 => ?_) (fun hc42 => ?_) -- cond 3
          · skip
            refine wp_seq ?_
            refine reg ?_
            refine plain (y_assign rfl rfl) rfl rfl rfl H41 ?_
            clear H41; intro a43 H43
            refine fin ?_
            refine then_n ?_
            refine wp_ret ?_
            refine inb_r ?_
            refine then_r ?_
            -- return 3
            refine ret1 rfl H43 rfl ?_
            rw [Bank.move_big hw0 (by omega) (by omega) (by omega)]; exact Turns.ret (H43.sep.sub (List.Sublist.cons _ (List.Sublist.refl _)))
          · skip
            have hmm := Bank.move_mid hL hw0 (by omega) (by omega)
            have hlen2 : (L.set f.toNat (L.getD f.toNat 0 - amt)).length = 64 := by simp [hlen]
            refine wp_skip ?_
            refine inb_n ?_
            refine then_n ?_
            refine wp_seq ?_
            refine treg 11 (by kernel_rfl) (by kernel_rfl) H41 ?_
            clear H41; intro w44 H44
            refine tplain (y_move rfl rfl) rfl rfl rfl H44 ?_
            clear H44; intro a45 H45
            refine tplain (y_move rfl rfl) rfl rfl rfl H45 ?_
            clear H45; intro a46 H46
            refine tplain (y_nilCheck rfl rfl) rfl rfl rfl H46 ?_
            clear H46; intro a47 H47
            refine tplain (y_fieldB rfl z_field69_0 rfl (by first | (simp only [Nat.zero_add, Nat.add_zero, Nat.reduceAdd]; rfl) | rfl)) rfl rfl rfl H47 ?_
            clear H47; intro a48 H48
            refine tplain (y_ixA rfl Try.underlying67 z_size3 rfl rfl (by omega) (by omega) rfl) rfl rfl rfl H48 ?_
            clear H48; intro a49 H49
            refine tplain (y_loadB rfl z_agg3 rfl (by repeat (first | exact List.Mem.head _ | apply List.Mem.tail)) (i64_getI _ _ (by omega) (by omega))) rfl rfl rfl H49 ?_
            clear H49; intro a50 H50
            refine tplain (y_move rfl rfl) rfl rfl rfl H50 ?_
            clear H50; intro a51 H51
            refine tplain (y_sub rfl rfl rfl (by first | exact w64 (by omega) (by omega) | rfl)) rfl rfl rfl H51 ?_
            clear H51; intro a52 H52
            refine tplain (y_nilCheck rfl rfl) rfl rfl rfl H52 ?_
            clear H52; intro a53 H53
            refine tplain (y_fieldB rfl z_field69_0 rfl (by first | (simp only [Nat.zero_add, Nat.add_zero, Nat.reduceAdd]; rfl) | rfl)) rfl rfl rfl H53 ?_
            clear H53; intro a54 H54
            refine tplain (y_ixA rfl Try.underlying67 z_size3 rfl rfl (by omega) (by omega) rfl) rfl rfl rfl H54 ?_
            clear H54; intro a55 H55
            refine tfin ?_
            refine st_store1 rfl z_size3 rfl rfl rfl (by repeat (first | exact Upd.head _ _ _ | apply Upd.tail)) (by first | decide | (simp; omega)) rfl rfl H55 ?_
            clear H55; intro w56 H56
            refine fin ?_
            refine then_n ?_
            refine wp_seq ?_
            refine treg 11 (by kernel_rfl) (by kernel_rfl) H56 ?_
            clear H56; intro w57 H57
            refine tplain (y_move rfl rfl) rfl rfl rfl H57 ?_
            clear H57; intro a58 H58
            refine tplain (y_move rfl rfl) rfl rfl rfl H58 ?_
            clear H58; intro a59 H59
            refine tplain (y_nilCheck rfl rfl) rfl rfl rfl H59 ?_
            clear H59; intro a60 H60
            refine tplain (y_fieldB rfl z_field69_0 rfl (by first | (simp only [Nat.zero_add, Nat.add_zero, Nat.reduceAdd]; rfl) | rfl)) rfl rfl rfl H60 ?_
            clear H60; intro a61 H61
            refine tplain (y_ixA rfl Try.underlying67 z_size3 rfl rfl (by omega) (by omega) rfl) rfl rfl rfl H61 ?_
            clear H61; intro a62 H62
            refine tplain (y_loadB rfl z_agg3 rfl (by repeat (first | exact List.Mem.head _ | apply List.Mem.tail)) (by rw [i64_set]; exact i64_getI _ _ (by omega) (by omega))) rfl rfl rfl H62 ?_
            clear H62; intro a63 H63
            refine tplain (y_move rfl rfl) rfl rfl rfl H63 ?_
            clear H63; intro a64 H64
            refine tplain (y_add rfl rfl rfl (by first | exact w64 (by omega) (by omega) | rfl)) rfl rfl rfl H64 ?_
            clear H64; intro a65 H65
            refine tplain (y_nilCheck rfl rfl) rfl rfl rfl H65 ?_
            clear H65; intro a66 H66
            refine tplain (y_fieldB rfl z_field69_0 rfl (by first | (simp only [Nat.zero_add, Nat.add_zero, Nat.reduceAdd]; rfl) | rfl)) rfl rfl rfl H66 ?_
            clear H66; intro a67 H67
            refine tplain (y_ixA rfl Try.underlying67 z_size3 rfl rfl (by omega) (by omega) rfl) rfl rfl rfl H67 ?_
            clear H67; intro a68 H68
            refine tfin ?_
            refine st_store1 rfl z_size3 rfl rfl rfl (by repeat (first | exact Upd.head _ _ _ | apply Upd.tail)) (by first | decide | (simp; omega)) rfl rfl H68 ?_
            clear H68; intro w69 H69
            refine fin ?_
            refine then_n ?_
            refine wp_seq ?_
            refine reg ?_
            refine plain (y_assign rfl rfl) rfl rfl rfl H69 ?_
            clear H69; intro a70 H70
            refine fin ?_
            refine then_n ?_
            refine wp_ret ?_
            -- return 4
            refine ret1 rfl H70 rfl ?_
            rw [Bank.move_ok hw0 (by omega) (by omega), ← i64_set, ← i64_set]; exact Turns.ret (H70.sep.sub (List.Sublist.cons _ (List.Sublist.refl _)))
      · first
        | fail
        | skip
          clear H28; intro H71
          have hmm := Bank.move_mid hL hw0 (by omega) (by omega)
          have hlen2 : (L.set f.toNat (L.getD f.toNat 0 - amt)).length = 64 := by simp [hlen]
          refine skip rfl rfl rfl H71 ?_
          clear H71; intro a72 H72
          refine skip rfl rfl rfl H72 ?_
          clear H72; intro a73 H73
          refine skip rfl rfl rfl H73 ?_
          clear H73; intro a74 H74
          refine skip rfl rfl rfl H74 ?_
          clear H74; intro a75 H75
          refine skip rfl rfl rfl H75 ?_
          clear H75; intro a76 H76
          refine skip rfl rfl rfl H76 ?_
          clear H76; intro a77 H77
          refine skip rfl rfl rfl H77 ?_
          clear H77; intro a78 H78
          refine skip rfl rfl rfl H78 ?_
          clear H78; intro a79 H79
          refine skip rfl rfl rfl H79 ?_
          clear H79; intro a80 H80
          refine plain (y_pick_f rfl rfl rfl) rfl rfl rfl H80 ?_
          clear H80; intro a81 H81
          refine plain (y_assign rfl rfl) rfl rfl rfl H81 ?_
          clear H81; intro a82 H82
          refine fin ?_
          refine then_n ?_
          refine cnd_f H82 rfl ?_
          refine wp_skip ?_
          refine inb_n ?_
          refine then_n ?_
          refine wp_seq ?_
          refine treg 11 (by kernel_rfl) (by kernel_rfl) H82 ?_
          clear H82; intro w84 H84
          refine tplain (y_move rfl rfl) rfl rfl rfl H84 ?_
          clear H84; intro a85 H85
          refine tplain (y_move rfl rfl) rfl rfl rfl H85 ?_
          clear H85; intro a86 H86
          refine tplain (y_nilCheck rfl rfl) rfl rfl rfl H86 ?_
          clear H86; intro a87 H87
          refine tplain (y_fieldB rfl z_field69_0 rfl (by first | (simp only [Nat.zero_add, Nat.add_zero, Nat.reduceAdd]; rfl) | rfl)) rfl rfl rfl H87 ?_
          clear H87; intro a88 H88
          refine tplain (y_ixA rfl Try.underlying67 z_size3 rfl rfl (by omega) (by omega) rfl) rfl rfl rfl H88 ?_
          clear H88; intro a89 H89
          refine tplain (y_loadB rfl z_agg3 rfl (by repeat (first | exact List.Mem.head _ | apply List.Mem.tail)) (i64_getI _ _ (by omega) (by omega))) rfl rfl rfl H89 ?_
          clear H89; intro a90 H90
          refine tplain (y_move rfl rfl) rfl rfl rfl H90 ?_
          clear H90; intro a91 H91
          refine tplain (y_sub rfl rfl rfl (by first | exact w64 (by omega) (by omega) | rfl)) rfl rfl rfl H91 ?_
          clear H91; intro a92 H92
          refine tplain (y_nilCheck rfl rfl) rfl rfl rfl H92 ?_
          clear H92; intro a93 H93
          refine tplain (y_fieldB rfl z_field69_0 rfl (by first | (simp only [Nat.zero_add, Nat.add_zero, Nat.reduceAdd]; rfl) | rfl)) rfl rfl rfl H93 ?_
          clear H93; intro a94 H94
          refine tplain (y_ixA rfl Try.underlying67 z_size3 rfl rfl (by omega) (by omega) rfl) rfl rfl rfl H94 ?_
          clear H94; intro a95 H95
          refine tfin ?_
          refine st_store1 rfl z_size3 rfl rfl rfl (by repeat (first | exact Upd.head _ _ _ | apply Upd.tail)) (by first | decide | (simp; omega)) rfl rfl H95 ?_
          clear H95; intro w96 H96
          refine fin ?_
          refine then_n ?_
          refine wp_seq ?_
          refine treg 11 (by kernel_rfl) (by kernel_rfl) H96 ?_
          clear H96; intro w97 H97
          refine tplain (y_move rfl rfl) rfl rfl rfl H97 ?_
          clear H97; intro a98 H98
          refine tplain (y_move rfl rfl) rfl rfl rfl H98 ?_
          clear H98; intro a99 H99
          refine tplain (y_nilCheck rfl rfl) rfl rfl rfl H99 ?_
          clear H99; intro a100 H100
          refine tplain (y_fieldB rfl z_field69_0 rfl (by first | (simp only [Nat.zero_add, Nat.add_zero, Nat.reduceAdd]; rfl) | rfl)) rfl rfl rfl H100 ?_
          clear H100; intro a101 H101
          refine tplain (y_ixA rfl Try.underlying67 z_size3 rfl rfl (by omega) (by omega) rfl) rfl rfl rfl H101 ?_
          clear H101; intro a102 H102
          refine tplain (y_loadB rfl z_agg3 rfl (by repeat (first | exact List.Mem.head _ | apply List.Mem.tail)) (by rw [i64_set]; exact i64_getI _ _ (by omega) (by omega))) rfl rfl rfl H102 ?_
          clear H102; intro a103 H103
          refine tplain (y_move rfl rfl) rfl rfl rfl H103 ?_
          clear H103; intro a104 H104
          refine tplain (y_add rfl rfl rfl (by first | exact w64 (by omega) (by omega) | rfl)) rfl rfl rfl H104 ?_
          clear H104; intro a105 H105
          refine tplain (y_nilCheck rfl rfl) rfl rfl rfl H105 ?_
          clear H105; intro a106 H106
          refine tplain (y_fieldB rfl z_field69_0 rfl (by first | (simp only [Nat.zero_add, Nat.add_zero, Nat.reduceAdd]; rfl) | rfl)) rfl rfl rfl H106 ?_
          clear H106; intro a107 H107
          refine tplain (y_ixA rfl Try.underlying67 z_size3 rfl rfl (by omega) (by omega) rfl) rfl rfl rfl H107 ?_
          clear H107; intro a108 H108
          refine tfin ?_
          refine st_store1 rfl z_size3 rfl rfl rfl (by repeat (first | exact Upd.head _ _ _ | apply Upd.tail)) (by first | decide | (simp; omega)) rfl rfl H108 ?_
          clear H108; intro w109 H109
          refine fin ?_
          refine then_n ?_
          refine wp_seq ?_
          refine reg ?_
          refine plain (y_assign rfl rfl) rfl rfl rfl H109 ?_
          clear H109; intro a110 H110
          refine fin ?_
          refine then_n ?_
          refine wp_ret ?_
          -- return 5
          refine ret1 rfl H110 rfl ?_
          rw [Bank.move_ok hw0 (by omega) (by omega), ← i64_set, ← i64_set]; exact Turns.ret (H110.sep.sub (List.Sublist.cons _ (List.Sublist.refl _)))
set_option maxRecDepth 100000 in
set_option maxHeartbeats 1000000 in
theorem bputN (who amt : Int) (w : World) : Calls Try.prog 30 #[.pointer none, .int .i64 who, .int .i64 amt] w (Gives (.int .i64 1) [] w) := by
  refine enterL (args := [.pointer none, .int .i64 who, .int .i64 amt]) Try.func30 rfl rfl (l := []) (Sep.refl _) ?_
  intro a0 H0
  refine wp_seq ?_
  refine reg ?_
  refine plain (y_assign rfl rfl) rfl rfl rfl H0 ?_
  clear H0; intro a1 H1
  refine fin ?_
  refine then_n ?_
  refine wp_seq ?_
  refine wp_seq ?_
  refine reg ?_
  refine plain (y_move rfl rfl) rfl rfl rfl H1 ?_
  clear H1; intro a2 H2
  refine plain (y_move rfl rfl) rfl rfl rfl H2 ?_
  clear H2; intro a3 H3
  refine plain (y_move rfl rfl) rfl rfl rfl H3 ?_
  clear H3; intro a4 H4
  refine st_buildSlice1 (xs := [.tmp 10]) rfl Try.underlying39 z_size3 z_zero3 rfl rfl rfl rfl rfl rfl rfl rfl rfl H4 ?_
  clear H4; intro b5 a5 w5 H5
  refine st_callg rfl z_call45 rfl rfl rfl rfl H5 (wrong_ none true rfl amt [who] _ _ _ rfl (Rd.ofSep (rd_blkA (by repeat (first | exact List.Mem.head _ | apply List.Mem.tail))) H5.sep) (by simp)) ?_
  clear H5; intro a6 w6 H6
  refine plain (y_assign rfl rfl) rfl rfl rfl H6 ?_
  clear H6; intro a7 H7
  refine fin ?_
  refine then_n ?_
  refine wp_seq ?_
  refine reg ?_
  refine plain (y_move rfl rfl) rfl rfl rfl H7 ?_
  clear H7; intro a8 H8
  refine plain (y_neq rfl rfl rfl) rfl rfl rfl H8 ?_
  clear H8; intro a9 H9
  refine fin ?_
  refine then_n ?_
  refine cnd_d H9 rfl (fun hc10 => ?_) (fun hc10 => ?_) -- cond 1
  · skip
    refine wp_seq ?_
    refine reg ?_
    refine plain (y_move rfl rfl) rfl rfl rfl H9 ?_
    clear H9; intro a11 H11
    refine plain (y_assign rfl rfl) rfl rfl rfl H11 ?_
    clear H11; intro a12 H12
    refine fin ?_
    refine then_n ?_
    refine wp_ret ?_
    refine then_r ?_
    -- return 1
    refine ret1 rfl H12 rfl ?_
    exact ⟨_, [], rfl, ⟨by rw [Bank.wrong_nil], rfl⟩, H12.sep.sub (List.nil_sublist _)⟩
  · exact absurd (by rw [Bank.wrong_nil]; decide) hc10
set_option maxRecDepth 100000 in
set_option maxHeartbeats 1000000 in
theorem btakeN (who amt : Int) (w : World) : Calls Try.prog 31 #[.pointer none, .int .i64 who, .int .i64 amt] w (Gives (.int .i64 1) [] w) := by
  refine enterL (args := [.pointer none, .int .i64 who, .int .i64 amt]) Try.func31 rfl rfl (l := []) (Sep.refl _) ?_
  intro a0 H0
  refine wp_seq ?_
  refine reg ?_
  refine plain (y_assign rfl rfl) rfl rfl rfl H0 ?_
  clear H0; intro a1 H1
  refine fin ?_
  refine then_n ?_
  refine wp_seq ?_
  refine wp_seq ?_
  refine reg ?_
  refine plain (y_move rfl rfl) rfl rfl rfl H1 ?_
  clear H1; intro a2 H2
  refine plain (y_move rfl rfl) rfl rfl rfl H2 ?_
  clear H2; intro a3 H3
  refine plain (y_move rfl rfl) rfl rfl rfl H3 ?_
  clear H3; intro a4 H4
  refine st_buildSlice1 (xs := [.tmp 10]) rfl Try.underlying39 z_size3 z_zero3 rfl rfl rfl rfl rfl rfl rfl rfl rfl H4 ?_
  clear H4; intro b5 a5 w5 H5
  refine st_callg rfl z_call45 rfl rfl rfl rfl H5 (wrong_ none true rfl amt [who] _ _ _ rfl (Rd.ofSep (rd_blkA (by repeat (first | exact List.Mem.head _ | apply List.Mem.tail))) H5.sep) (by simp)) ?_
  clear H5; intro a6 w6 H6
  refine plain (y_assign rfl rfl) rfl rfl rfl H6 ?_
  clear H6; intro a7 H7
  refine fin ?_
  refine then_n ?_
  refine wp_seq ?_
  refine reg ?_
  refine plain (y_move rfl rfl) rfl rfl rfl H7 ?_
  clear H7; intro a8 H8
  refine plain (y_neq rfl rfl rfl) rfl rfl rfl H8 ?_
  clear H8; intro a9 H9
  refine fin ?_
  refine then_n ?_
  refine cnd_d H9 rfl (fun hc10 => ?_) (fun hc10 => ?_) -- cond 1
  · skip
    refine wp_seq ?_
    refine reg ?_
    refine plain (y_move rfl rfl) rfl rfl rfl H9 ?_
    clear H9; intro a11 H11
    refine plain (y_assign rfl rfl) rfl rfl rfl H11 ?_
    clear H11; intro a12 H12
    refine fin ?_
    refine then_n ?_
    refine wp_ret ?_
    refine then_r ?_
    -- return 1
    refine ret1 rfl H12 rfl ?_
    exact ⟨_, [], rfl, ⟨by rw [Bank.wrong_nil], rfl⟩, H12.sep.sub (List.nil_sublist _)⟩
  · exact absurd (by rw [Bank.wrong_nil]; decide) hc10
set_option maxRecDepth 100000 in
set_option maxHeartbeats 1000000 in
theorem bmoveN (f t amt : Int) (w : World) : Calls Try.prog 32 #[.pointer none, .int .i64 f, .int .i64 t, .int .i64 amt] w (Gives (.int .i64 1) [] w) := by
  refine enterL (args := [.pointer none, .int .i64 f, .int .i64 t, .int .i64 amt]) Try.func32 rfl rfl (l := []) (Sep.refl _) ?_
  intro a0 H0
  refine wp_seq ?_
  refine reg ?_
  refine plain (y_assign rfl rfl) rfl rfl rfl H0 ?_
  clear H0; intro a1 H1
  refine fin ?_
  refine then_n ?_
  refine wp_seq ?_
  refine wp_seq ?_
  refine reg ?_
  refine plain (y_move rfl rfl) rfl rfl rfl H1 ?_
  clear H1; intro a2 H2
  refine plain (y_move rfl rfl) rfl rfl rfl H2 ?_
  clear H2; intro a3 H3
  refine plain (y_move rfl rfl) rfl rfl rfl H3 ?_
  clear H3; intro a4 H4
  refine plain (y_move rfl rfl) rfl rfl rfl H4 ?_
  clear H4; intro a5 H5
  refine st_buildSlice1 (xs := [.tmp 12, .tmp 13]) rfl Try.underlying39 z_size3 z_zero3 rfl rfl rfl rfl rfl rfl rfl rfl rfl H5 ?_
  clear H5; intro b6 a6 w6 H6
  refine st_callg rfl z_call45 rfl rfl rfl rfl H6 (wrong_ none true rfl amt [f, t] _ _ _ rfl (Rd.ofSep (rd_blkA (by repeat (first | exact List.Mem.head _ | apply List.Mem.tail))) H6.sep) (by simp)) ?_
  clear H6; intro a7 w7 H7
  refine plain (y_assign rfl rfl) rfl rfl rfl H7 ?_
  clear H7; intro a8 H8
  refine fin ?_
  refine then_n ?_
  refine wp_seq ?_
  refine reg ?_
  refine plain (y_move rfl rfl) rfl rfl rfl H8 ?_
  clear H8; intro a9 H9
  refine plain (y_neq rfl rfl rfl) rfl rfl rfl H9 ?_
  clear H9; intro a10 H10
  refine fin ?_
  refine then_n ?_
  refine cnd_d H10 rfl (fun hc11 => ?_) (fun hc11 => ?_) -- cond 1
  · skip
    refine wp_seq ?_
    refine reg ?_
    refine plain (y_move rfl rfl) rfl rfl rfl H10 ?_
    clear H10; intro a12 H12
    refine plain (y_assign rfl rfl) rfl rfl rfl H12 ?_
    clear H12; intro a13 H13
    refine fin ?_
    refine then_n ?_
    refine wp_ret ?_
    refine then_r ?_
    -- return 1
    refine ret1 rfl H13 rfl ?_
    exact ⟨_, [], rfl, ⟨by rw [Bank.wrong_nil], rfl⟩, H13.sep.sub (List.nil_sublist _)⟩
  · exact absurd (by rw [Bank.wrong_nil]; decide) hc11

end Go.Proofs.Ytlaojmcpiggfeaa.TBank
