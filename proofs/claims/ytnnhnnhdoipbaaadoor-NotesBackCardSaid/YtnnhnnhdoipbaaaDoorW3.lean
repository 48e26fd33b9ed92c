/- Part of a proof about given Go functions: contracts of functions, or plain laws. -/
import Derived.Test.YtnnhnnhdoipbaaaDoorNoteV
import Derived.Test.YtnnhnnhdoipbaaaDoorSxI
import Derived.Test.YtnnhnnhdoipbaaaDoorProg
import Derived.Test.YtnnhnnhdoipbaaaDoorW1
import Derived.Test.YtnnhnnhdoipbaaaDoorW2
import Derived.Test.YtnnhnnhdoipbaaaDoorNoteW
import Derived.Test.YtnnhnnhdoipbaaaDoorSxTx
set_option linter.unusedVariables false
set_option linter.unusedSimpArgs false
namespace Go.Proofs.YtnnhnnhdoipbaaaDoor.N_WBatch
open Go.Sx Go.RowKit Go.Proofs.YtnnhnnhdoipbaaaDoor.N_Num Go.Proofs.YtnnhnnhdoipbaaaDoor.N_Read Go.Proofs.YtnnhnnhdoipbaaaDoor.N_Lay

theorem z_field42_0 : fieldB Tryd.prog 42 0 = some 0 := by kernel_rfl
theorem z_agg3 : aggB Tryd.prog 3 = some false := by kernel_rfl
theorem q_ix_c4_0 {a0 a1 a2 a3 : Value} : (a0 :: a1 :: a2 :: a3 :: [])[0]? = some a0 := ix_0
theorem z_field42_1 : fieldB Tryd.prog 42 1 = some 1 := by kernel_rfl
theorem q_ix_c4_1 {a0 a1 a2 a3 : Value} : (a0 :: a1 :: a2 :: a3 :: [])[1]? = some a1 := (ix_c (o := 0) ix_0)
theorem z_field42_2 : fieldB Tryd.prog 42 2 = some 2 := by kernel_rfl
theorem q_ix_c4_2 {a0 a1 a2 a3 : Value} : (a0 :: a1 :: a2 :: a3 :: [])[2]? = some a2 := (ix_c (o := 1) (ix_c (o := 0) ix_0))
theorem z_size3 : sizeB Tryd.prog 3 = some 1 := by kernel_rfl
theorem z_zero3 : zeroL Tryd.prog 3 = some ([.int .i64 0]) := by kernel_rfl
theorem z_call47 : callB Tryd.prog 47 = true := by kernel_rfl
theorem z_field42_3 : fieldB Tryd.prog 42 3 = some 3 := by kernel_rfl
theorem z_agg40 : aggB Tryd.prog 40 = some false := by kernel_rfl
theorem q_ix_c4_3 {a0 a1 a2 a3 : Value} : (a0 :: a1 :: a2 :: a3 :: [])[3]? = some a3 := (ix_c (o := 2) (ix_c (o := 1) (ix_c (o := 0) ix_0)))
theorem z_call36 : callB Tryd.prog 36 = true := by kernel_rfl
theorem z_size75 : sizeB Tryd.prog 75 = some 2 := by kernel_rfl
theorem z_agg75 : aggB Tryd.prog 75 = some true := by kernel_rfl
theorem z_zeroN75 : zeroL Tryd.prog 75 = some ((.bool false :: (.string ⟨#[]⟩ :: []))) := by kernel_rfl
theorem q_one_c2 {a0 a1 : Value} (o0 : a0.oneCell' = true) (o1 : a1.oneCell' = true) : (a0 :: a1 :: []).all (·.oneCell') = true := (one_c o0 (one_c o1 one_n))
theorem q_len_c2 {a0 a1 : Value} : (a0 :: a1 :: []).length = 2 := (len_c (n := 1) (len_c (n := 0) len_n))
theorem q_spl_c2_0_c2 {a0 a1 : Value} {b0 b1 : Value} : spl (a0 :: a1 :: []) 0 (b0 :: b1 :: []) = b0 :: b1 :: [] := (spl_a (z := 2) (len_c (n := 1) (len_c (n := 0) len_n)) (len_c (n := 1) (len_c (n := 0) len_n)))
theorem z_field75_1 : fieldB Tryd.prog 75 1 = some 1 := by kernel_rfl
theorem z_agg9 : aggB Tryd.prog 9 = some false := by kernel_rfl
theorem q_ix_c2_1 {a0 a1 : Value} : (a0 :: a1 :: [])[1]? = some a1 := (ix_c (o := 0) ix_0)
theorem z_field75_0 : fieldB Tryd.prog 75 0 = some 0 := by kernel_rfl
theorem z_agg4 : aggB Tryd.prog 4 = some false := by kernel_rfl
theorem q_ix_c2_0 {a0 a1 : Value} : (a0 :: a1 :: [])[0]? = some a0 := ix_0
theorem z_size9 : sizeB Tryd.prog 9 = some 1 := by kernel_rfl
theorem z_zero9 : zeroL Tryd.prog 9 = some ([.string ⟨#[]⟩]) := by kernel_rfl
theorem z_slice49 : sliceB Tryd.prog 49 = some (9, 1, 16) := by kernel_rfl
theorem z_notint49 : notIntB Tryd.prog 49 = true := by kernel_rfl
theorem z_call35 : callB Tryd.prog 35 = true := by kernel_rfl

set_option maxRecDepth 100000 in
set_option maxHeartbeats 2000000 in
theorem nwbatch (b : Note.Batch) (wf : Note.Batch.Wf b) (A : Option Addr) (c : Nat) {w : World} (hR : Rd w A (Note.pc b.parts))  : Calls Tryd.prog 21 #[.agg (Note.Batch.cells b A c).toArray] w (Gives (.tuple #[str (Note.writeBatch b).1, .int .i64 (Note.writeBatch b).2]) [] w) := by
  have hpl := wf.len
  have lz32 : (List.replicate 32 (0 : UInt8)).length = 32 := List.length_replicate
  refine enterL (args := [.agg (Note.Batch.cells b A c).toArray]) Tryd.func21 rfl rfl (l := []) (Sep.refl _) ?_
  intro a0 H0
  refine wp_seq ?_
  refine reg ?_
  refine st_box rfl rfl (agg_cells _) rfl rfl rfl H0 ?_
  clear H0; intro b1 a1 wx1 H1
  refine plain (y_assign rfl rfl) rfl rfl rfl H1 ?_
  clear H1; intro a2 H2
  refine plain (y_assign rfl rfl) rfl rfl rfl H2 ?_
  clear H2; intro a3 H3
  refine fin ?_
  refine then_n ?_
  refine wp_seq ?_
  refine wp_seq ?_
  refine reg ?_
  refine plain (y_fieldB rfl z_field42_0 rfl (by first | (simp only [Nat.zero_add, Nat.add_zero, Nat.reduceAdd]; rfl) | rfl)) rfl rfl rfl H3 ?_
  clear H3; intro a4 H4
  refine plain (y_loadB rfl z_agg3 rfl (by repeat (first | exact Mh | apply Mt)) q_ix_c4_0) rfl rfl rfl H4 ?_
  clear H4; intro a5 H5
  refine plain (y_fieldB rfl z_field42_1 rfl (by first | (simp only [Nat.zero_add, Nat.add_zero, Nat.reduceAdd]; rfl) | rfl)) rfl rfl rfl H5 ?_
  clear H5; intro a6 H6
  refine plain (y_loadB rfl z_agg3 rfl (by repeat (first | exact Mh | apply Mt)) q_ix_c4_1) rfl rfl rfl H6 ?_
  clear H6; intro a7 H7
  refine plain (y_fieldB rfl z_field42_2 rfl (by first | (simp only [Nat.zero_add, Nat.add_zero, Nat.reduceAdd]; rfl) | rfl)) rfl rfl rfl H7 ?_
  clear H7; intro a8 H8
  refine plain (y_loadB rfl z_agg3 rfl (by repeat (first | exact Mh | apply Mt)) q_ix_c4_2) rfl rfl rfl H8 ?_
  clear H8; intro a9 H9
  refine st_buildSlice1 (xs := [.tmp 8, .tmp 10, .tmp 12]) rfl Tryd.underlying83 z_size3 z_zero3 rfl rfl rfl rfl rfl rfl rfl rfl rfl H9 ?_
  clear H9; intro b10 a10 wx10 H10
  refine st_callg rfl z_call47 rfl rfl rfl rfl H10 (nnum [b.seq, b.first, b.before] _ _ _ rfl (by simp) (Rd.ofSep (rd_blkA (by repeat (first | exact Mh | apply Mt))) H10.sep)) ?_
  clear H10; intro a11 wx11 H11
  refine plain ((by first | exact y_not_d rfl rfl | exact y_not rfl rfl)) rfl rfl rfl H11 ?_
  clear H11; intro a12 H12
  refine plain (y_move rfl rfl) rfl rfl rfl H12 ?_
  clear H12; intro a13 H13
  refine Sx.part (d := 16) H13 rfl (fun hg14 => ?_) (fun hg14 => ?_)
  · first
    | fail
    | skip
      clear H13; intro H15
      try simp only [decide_eq_true_eq, decide_eq_false_iff_not, Bool.not_eq_true', Bool.not_eq_false', Bool.and_eq_true, Bool.not_eq_true, Bool.not_eq_false] at hg14
      refine skip rfl rfl rfl H15 ?_
      clear H15; intro a16 H16
      refine skip rfl rfl rfl H16 ?_
      clear H16; intro a17 H17
      refine skip rfl rfl rfl H17 ?_
      clear H17; intro a18 H18
      refine skip rfl rfl rfl H18 ?_
      clear H18; intro a19 H19
      refine plain (y_pick_t rfl rfl rfl) rfl rfl rfl H19 ?_
      clear H19; intro a20 H20
      refine fin ?_
      refine then_n ?_
      refine cnd_t H20 rfl ?_
      refine wp_seq ?_
      refine reg ?_
      refine plain (y_assign rfl rfl) rfl rfl rfl H20 ?_
      clear H20; intro a22 H22
      refine plain (y_assign rfl rfl) rfl rfl rfl H22 ?_
      clear H22; intro a23 H23
      refine fin ?_
      refine then_n ?_
      refine wp_ret ?_
      refine then_r ?_
      -- return 1
      refine ret2 rfl H23 rfl rfl ?_
      refine ⟨_, [], rfl, ⟨?_, rfl⟩, H23.sep.sub (List.nil_sublist _)⟩
      clear H23
      first | (rw [Note.writeBatch_bad (by intro h; first | omega | exact Bool.noConfusion (h.1.symm.trans (show Note.nums [b.seq, b.first, b.before] = false by assumption)))]) | (rw [Note.writeBatch_at (k := k) (by omega) (by first | exact Note.Part.ok_long (by omega) | exact Note.Part.ok_full (by assumption) (by assumption))]) | (rw [Note.writeBatch_ok (k := k) (by assumption) (by omega) hok.2 (by omega)])
  · first
    | fail
    | skip
      clear H13; intro H24
      try simp only [decide_eq_true_eq, decide_eq_false_iff_not, Bool.not_eq_true', Bool.not_eq_false', Bool.and_eq_true, Bool.not_eq_true, Bool.not_eq_false] at hg14
      refine plain (y_fieldB rfl z_field42_3 rfl (by first | (simp only [Nat.zero_add, Nat.add_zero, Nat.reduceAdd]; rfl) | rfl)) rfl rfl rfl H24 ?_
      clear H24; intro a25 H25
      refine plain (y_loadB rfl z_agg40 rfl (by repeat (first | exact Mh | apply Mt)) q_ix_c4_3) rfl rfl rfl H25 ?_
      clear H25; intro a26 H26
      refine plain (y_len rfl Tryd.underlying40 rfl) rfl rfl rfl H26 ?_
      clear H26; intro a27 H27
      refine plain (y_gtr rfl rfl rfl) rfl rfl rfl H27 ?_
      clear H27; intro a28 H28
      refine plain (y_pick_f rfl rfl rfl) rfl rfl rfl H28 ?_
      clear H28; intro a29 H29
      refine fin ?_
      refine then_n ?_
      refine cnd H29 rfl (fun hc30 => ?_) (fun hc30 => ?_) -- cond 2
      · skip
        try simp only [decide_eq_true_eq, decide_eq_false_iff_not, Bool.not_eq_true', Bool.not_eq_false', Bool.and_eq_true, Bool.not_eq_true, Bool.not_eq_false] at hc30
        refine wp_seq ?_
        refine reg ?_
        refine plain (y_assign rfl rfl) rfl rfl rfl H29 ?_
        clear H29; intro a31 H31
        refine plain (y_assign rfl rfl) rfl rfl rfl H31 ?_
        clear H31; intro a32 H32
        refine fin ?_
        refine then_n ?_
        refine wp_ret ?_
        refine then_r ?_
        -- return 2
        refine ret2 rfl H32 rfl rfl ?_
        refine ⟨_, [], rfl, ⟨?_, rfl⟩, H32.sep.sub (List.nil_sublist _)⟩
        clear H32
        first | (rw [Note.writeBatch_bad (by intro h; first | omega | exact Bool.noConfusion (h.1.symm.trans (show Note.nums [b.seq, b.first, b.before] = false by assumption)))]) | (rw [Note.writeBatch_at (k := k) (by omega) (by first | exact Note.Part.ok_long (by omega) | exact Note.Part.ok_full (by assumption) (by assumption))]) | (rw [Note.writeBatch_ok (k := k) (by assumption) (by omega) hok.2 (by omega)])
      · skip
        try simp only [decide_eq_true_eq, decide_eq_false_iff_not, Bool.not_eq_true', Bool.not_eq_false', Bool.and_eq_true, Bool.not_eq_true, Bool.not_eq_false] at hc30
        refine wp_skip ?_
        refine then_n ?_
        refine wp_seq ?_
        refine reg ?_
        refine plain (y_fieldB rfl z_field42_0 rfl (by first | (simp only [Nat.zero_add, Nat.add_zero, Nat.reduceAdd]; rfl) | rfl)) rfl rfl rfl H29 ?_
        clear H29; intro a33 H33
        refine plain (y_loadB rfl z_agg3 rfl (by repeat (first | exact Mh | apply Mt)) q_ix_c4_0) rfl rfl rfl H33 ?_
        clear H33; intro a34 H34
        refine plain (y_fieldB rfl z_field42_1 rfl (by first | (simp only [Nat.zero_add, Nat.add_zero, Nat.reduceAdd]; rfl) | rfl)) rfl rfl rfl H34 ?_
        clear H34; intro a35 H35
        refine plain (y_loadB rfl z_agg3 rfl (by repeat (first | exact Mh | apply Mt)) q_ix_c4_1) rfl rfl rfl H35 ?_
        clear H35; intro a36 H36
        refine plain (y_fieldB rfl z_field42_2 rfl (by first | (simp only [Nat.zero_add, Nat.add_zero, Nat.reduceAdd]; rfl) | rfl)) rfl rfl rfl H36 ?_
        clear H36; intro a37 H37
        refine plain (y_loadB rfl z_agg3 rfl (by repeat (first | exact Mh | apply Mt)) q_ix_c4_2) rfl rfl rfl H37 ?_
        clear H37; intro a38 H38
        refine st_buildSlice1 (xs := [.tmp 23, .tmp 25, .tmp 27]) rfl Tryd.underlying83 z_size3 z_zero3 rfl rfl rfl rfl rfl rfl rfl rfl rfl H38 ?_
        clear H38; intro b39 a39 wx39 H39
        refine st_call rfl z_call36 rfl rfl rfl rfl H39 (nlay [b.seq, b.first, b.before] _ _ _ rfl (by simp) (by intro x hx; simp only [List.mem_cons, List.not_mem_nil, or_false] at hx; rcases hx with rfl | rfl | rfl <;> first | exact wf.seq.2 | exact wf.first.2 | exact wf.before.2) (Rd.ofSep (rd_blkA (by repeat (first | exact Mh | apply Mt))) H39.sep)) ?_
        clear H39; intro v40 l40 a40 wx40 hf40 H40
        obtain rfl := hf40
        simp only [List.cons_append, List.nil_append] at H40
        obtain ⟨ArT, crT, hvrT, hRrT, hmrT⟩ := row_shape (v := v40) H40.sep (by repeat (first | exact Mh | apply Mt))
        subst hvrT
        refine plain (y_assign rfl rfl) rfl rfl rfl H40 ?_
        clear H40; intro a41 H41
        refine fin ?_
        refine then_n ?_
        refine wp_seq ?_
        refine wp_seq ?_
        refine reg ?_
        refine plain (y_fieldB rfl z_field42_3 rfl (by first | (simp only [Nat.zero_add, Nat.add_zero, Nat.reduceAdd]; rfl) | rfl)) rfl rfl rfl H41 ?_
        clear H41; intro a42 H42
        refine plain (y_loadB rfl z_agg40 rfl (by repeat (first | exact Mh | apply Mt)) q_ix_c4_3) rfl rfl rfl H42 ?_
        clear H42; intro a43 H43
        refine plain (y_len rfl Tryd.underlying40 rfl) rfl rfl rfl H43 ?_
        clear H43; intro a44 H44
        refine plain (y_move rfl rfl) rfl rfl rfl H44 ?_
        clear H44; intro a45 H45
        refine fin ?_
        refine then_n ?_
        refine wp_block ?_
        refine loop (ι := Nat × Value) (fun x => [(1, .pointer (some ⟨b1, 0, none⟩)), (4, x.2), (31, .slice A b.parts.length c), (32, .int .i64 (b.parts.length : Int)), (33, .int .i64 (x.1 : Int))]) (fun x => [It.row 9 1 x.2 (3 + x.1) (([Note.num b.seq, Note.num b.first, Note.num b.before] ++ (b.parts.take x.1).map Note.Part.laid).map str), It.blk b1 42 (Note.Batch.cells b A c)]) (fun x => x.1 ≤ b.parts.length ∧ (b.parts.take x.1).all Note.Part.ok = true) (fun x => b.parts.length - x.1) ((0, .slice ArT 3 crT)) ⟨Nat.zero_le _, rfl⟩ ((H45.drop (by first | exact S0 | exact S1 | repeat (first | exact S1 | exact S0 | apply S2 | apply S3))).weak ⟨rfl, rfl, rfl, rfl, rfl, trivial⟩ (ir2 rfl rfl rfl)) ?_
        clear H45; intro x a46 wx46 hok46 H46
        obtain ⟨k, v⟩ := x
        dsimp only at hok46 H46
        have hok := hok46
        obtain ⟨Av, cv, hv, hRv, hmv⟩ := row_shape (v := v) H46.sep (by repeat (first | exact Mh | apply Mt))
        subst hv
        refine wp_seq ?_
        refine reg ?_
        refine plain (y_lss rfl rfl rfl) rfl rfl rfl H46 ?_
        clear H46; intro a47 H47
        refine fin ?_
        refine then_n ?_
        refine wp_seq ?_
        refine cnd H47 rfl (fun hc48 => ?_) (fun hc48 => ?_) -- cond 3
        · skip
          try simp only [decide_eq_true_eq, decide_eq_false_iff_not, Bool.not_eq_true', Bool.not_eq_false', Bool.and_eq_true, Bool.not_eq_true, Bool.not_eq_false] at hc48
          refine wp_skip ?_
          refine then_n ?_
          refine wp_seq ?_
          refine wp_block ?_
          refine wp_seq ?_
          refine reg ?_
          refine plain (y_ixR rfl Tryd.underlying40 z_size75 rfl rfl (by omega) (by omega) (rd_old (by assumption) (by simp)) (by rw [Note.pc_len]; omega)) rfl rfl rfl H47 ?_
          clear H47; intro a49 H49
          refine plain (y_loadAS rfl z_agg75 z_size75 rfl (rd_old (by assumption) (by simp)) (show _ = Note.Part.cells (b.parts.getD k ⟨false, []⟩) from Note.pc_take k (by omega)) rfl (by decide)) rfl rfl rfl H49 ?_
          clear H49; intro a50 H50
          refine st_alloc rfl z_zeroN75 rfl rfl rfl H50 ?_
          clear H50; intro b51 a51 wx51 H51
          refine st_storeN rfl z_size75 rfl rfl (agg_cells _) (by repeat (first | exact Uh | apply Ut)) (q_one_c2 rfl rfl) q_len_c2 q_len_c2 q_spl_c2_0_c2 (by decide) rfl rfl H51 ?_
          clear H51; intro wx52 H52
          refine fin ?_
          refine then_n ?_
          refine wp_block ?_
          refine wp_seq ?_
          refine wp_seq ?_
          refine reg ?_
          refine plain (y_fieldB rfl z_field75_1 rfl (by first | (simp only [Nat.zero_add, Nat.add_zero, Nat.reduceAdd]; rfl) | rfl)) rfl rfl rfl H52 ?_
          clear H52; intro a53 H53
          refine plain (y_loadB rfl z_agg9 rfl (by repeat (first | exact Mh | apply Mt)) q_ix_c2_1) rfl rfl rfl H53 ?_
          clear H53; intro a54 H54
          refine plain (y_slen rfl Tryd.underlying9 rfl) rfl rfl rfl H54 ?_
          clear H54; intro a55 H55
          refine plain (y_gtr rfl rfl rfl) rfl rfl rfl H55 ?_
          clear H55; intro a56 H56
          refine plain (y_assign rfl rfl) rfl rfl rfl H56 ?_
          clear H56; intro a57 H57
          refine fin ?_
          refine then_n ?_
          refine cnd H57 rfl (fun hc58 => ?_) (fun hc58 => ?_) -- cond 4
          · skip
            try simp only [decide_eq_true_eq, decide_eq_false_iff_not, Bool.not_eq_true', Bool.not_eq_false', Bool.and_eq_true, Bool.not_eq_true, Bool.not_eq_false] at hc58
            refine wp_skip ?_
            refine then_n ?_
            refine cnd H57 rfl (fun hc59 => ?_) (fun hc59 => ?_) -- cond 5
            · skip
              try simp only [decide_eq_true_eq, decide_eq_false_iff_not, Bool.not_eq_true', Bool.not_eq_false', Bool.and_eq_true, Bool.not_eq_true, Bool.not_eq_false] at hc59
              refine wp_seq ?_
              refine reg ?_
              refine plain (y_assign rfl rfl) rfl rfl rfl H57 ?_
              clear H57; intro a60 H60
              refine plain (y_assign rfl rfl) rfl rfl rfl H60 ?_
              clear H60; intro a61 H61
              refine fin ?_
              refine then_n ?_
              refine wp_ret ?_
              refine inb_r ?_
              refine inb_r ?_
              refine then_r ?_
              refine then_r ?_
              refine inb_r ?_
              refine then_r ?_
              -- return 3
              refine ret2 rfl H61 rfl rfl ?_
              refine ⟨_, [], rfl, ⟨?_, rfl⟩, H61.sep.sub (List.nil_sublist _)⟩
              clear H61
              first | (rw [Note.writeBatch_bad (by intro h; first | omega | exact Bool.noConfusion (h.1.symm.trans (show Note.nums [b.seq, b.first, b.before] = false by assumption)))]) | (rw [Note.writeBatch_at (k := k) (by omega) (by first | exact Note.Part.ok_long (by omega) | exact Note.Part.ok_full (by assumption) (by assumption))]) | (rw [Note.writeBatch_ok (k := k) (by assumption) (by omega) hok.2 (by omega)])
            · (try simp only [decide_eq_true_eq, decide_eq_false_iff_not, Bool.not_eq_true', Bool.not_eq_false', Bool.and_eq_true, Bool.not_eq_true, Bool.not_eq_false] at hc59); (exfalso; omega)
          · skip
            try simp only [decide_eq_true_eq, decide_eq_false_iff_not, Bool.not_eq_true', Bool.not_eq_false', Bool.and_eq_true, Bool.not_eq_true, Bool.not_eq_false] at hc58
            refine reg ?_
            refine plain (y_fieldB rfl z_field75_0 rfl (by first | (simp only [Nat.zero_add, Nat.add_zero, Nat.reduceAdd]; rfl) | rfl)) rfl rfl rfl H57 ?_
            clear H57; intro a62 H62
            refine plain (y_loadB rfl z_agg4 rfl (by repeat (first | exact Mh | apply Mt)) q_ix_c2_0) rfl rfl rfl H62 ?_
            clear H62; intro a63 H63
            refine plain (y_move rfl rfl) rfl rfl rfl H63 ?_
            clear H63; intro a64 H64
            refine Sx.part (d := 50) H64 rfl (fun hg65 => ?_) (fun hg65 => ?_)
            · first
              | fail
              | skip
                clear H64; intro H66
                try simp only [decide_eq_true_eq, decide_eq_false_iff_not, Bool.not_eq_true', Bool.not_eq_false', Bool.and_eq_true, Bool.not_eq_true, Bool.not_eq_false] at hg65
                refine plain (y_fieldB rfl z_field75_1 rfl (by first | (simp only [Nat.zero_add, Nat.add_zero, Nat.reduceAdd]; rfl) | rfl)) rfl rfl rfl H66 ?_
                clear H66; intro a67 H67
                refine plain (y_loadB rfl z_agg9 rfl (by repeat (first | exact Mh | apply Mt)) q_ix_c2_1) rfl rfl rfl H67 ?_
                clear H67; intro a68 H68
                refine plain (y_sneq rfl rfl rfl) rfl rfl rfl H68 ?_
                clear H68; intro a69 H69
                refine plain (y_pick_t rfl rfl rfl) rfl rfl rfl H69 ?_
                clear H69; intro a70 H70
                refine plain (y_assign rfl rfl) rfl rfl rfl H70 ?_
                clear H70; intro a71 H71
                refine fin ?_
                refine then_n ?_
                refine cnd H71 rfl (fun hc72 => ?_) (fun hc72 => ?_) -- cond 6
                · skip
                  try simp only [decide_eq_true_eq, decide_eq_false_iff_not, Bool.not_eq_true', Bool.not_eq_false', Bool.and_eq_true, Bool.not_eq_true, Bool.not_eq_false] at hc72
                  refine wp_seq ?_
                  refine reg ?_
                  refine plain (y_assign rfl rfl) rfl rfl rfl H71 ?_
                  clear H71; intro a73 H73
                  refine plain (y_assign rfl rfl) rfl rfl rfl H73 ?_
                  clear H73; intro a74 H74
                  refine fin ?_
                  refine then_n ?_
                  refine wp_ret ?_
                  refine inb_r ?_
                  refine inb_r ?_
                  refine then_r ?_
                  refine then_r ?_
                  refine inb_r ?_
                  refine then_r ?_
                  -- return 4
                  refine ret2 rfl H74 rfl rfl ?_
                  refine ⟨_, [], rfl, ⟨?_, rfl⟩, H74.sep.sub (List.nil_sublist _)⟩
                  clear H74
                  first | (rw [Note.writeBatch_bad (by intro h; first | omega | exact Bool.noConfusion (h.1.symm.trans (show Note.nums [b.seq, b.first, b.before] = false by assumption)))]) | (rw [Note.writeBatch_at (k := k) (by omega) (by first | exact Note.Part.ok_long (by omega) | exact Note.Part.ok_full (by assumption) (by assumption))]) | (rw [Note.writeBatch_ok (k := k) (by assumption) (by omega) hok.2 (by omega)])
                · skip
                  try simp only [decide_eq_true_eq, decide_eq_false_iff_not, Bool.not_eq_true', Bool.not_eq_false', Bool.and_eq_true, Bool.not_eq_true, Bool.not_eq_false] at hc72
                  refine wp_seq ?_
                  refine reg ?_
                  refine plain (y_fieldB rfl z_field75_0 rfl (by first | (simp only [Nat.zero_add, Nat.add_zero, Nat.reduceAdd]; rfl) | rfl)) rfl rfl rfl H71 ?_
                  clear H71; intro a75 H75
                  refine plain (y_loadB rfl z_agg4 rfl (by repeat (first | exact Mh | apply Mt)) q_ix_c2_0) rfl rfl rfl H75 ?_
                  clear H75; intro a76 H76
                  refine plain (y_assign rfl rfl) rfl rfl rfl H76 ?_
                  clear H76; intro a77 H77
                  refine fin ?_
                  refine then_n ?_
                  refine cnd H77 rfl (fun hc78 => ?_) (fun hc78 => ?_) -- cond 7
                  · skip
                    try simp only [decide_eq_true_eq, decide_eq_false_iff_not, Bool.not_eq_true', Bool.not_eq_false', Bool.and_eq_true, Bool.not_eq_true, Bool.not_eq_false] at hc78
                    refine reg ?_
                    refine plain (y_move rfl rfl) rfl rfl rfl H77 ?_
                    clear H77; intro a79 H79
                    refine st_buildSlice1 (xs := [.const (.string ⟨#[2]⟩)]) rfl Tryd.underlying49 z_size9 z_zero9 rfl rfl rfl rfl rfl rfl rfl rfl rfl H79 ?_
                    clear H79; intro b80 a80 wx80 H80
                    refine st_append rfl z_slice49 z_notint49 rfl rfl (fun _ => (by repeat (first | exact Uh | apply Ut))) (fun w hs => Src.slice ((rd_blkA (by repeat (first | exact Mh | apply Mt))) w hs) rfl (by simp [Value.oneCell'])) (by unfold maxLen at *; first | omega | (simp only [List.length_cons, List.length_nil, List.length_append, List.length_map]; omega)) (by first | omega | (simp only [List.length_cons, List.length_nil, List.length_append, List.length_map]; omega)) rfl rfl rfl H80 ?_
                    clear H80; intro v81 a81 wx81 hnil81 H81
                    obtain ⟨Ar81, cr81, hvr81, hRr81, hmr81⟩ := row_shape (v := v81) H81.sep (by repeat (first | exact Mh | apply Mt))
                    subst hvr81
                    refine plain (y_assign rfl rfl) rfl rfl rfl H81 ?_
                    clear H81; intro a82 H82
                    refine fin ?_
                    refine inb_n ?_
                    refine inb_n ?_
                    refine then_n ?_
                    refine reg ?_
                    refine plain (y_add rfl rfl rfl (by first | exact w64 (by omega) (by omega) | rfl)) rfl rfl rfl H82 ?_
                    clear H82; intro a83 H83
                    refine plain (y_move rfl rfl) rfl rfl rfl H83 ?_
                    clear H83; intro a84 H84
                    refine fin ?_
                    refine then_n ?_
                    have hpk : (b.parts.getD k ⟨false, []⟩).ok = true := by rw [Note.Part.ok_is]; exact decide_eq_true (by simp_all)
                    refine ⟨(k + 1, (.slice Ar81 _ cr81)), by dsimp only; omega, ⟨by dsimp only; omega, Note.take_all ⟨false, []⟩ (by omega) hok.2 hpk⟩, (H84.drop (by first | exact S0 | exact S1 | repeat (first | exact S1 | exact S0 | apply S2 | apply S3))).weak ⟨rfl, rfl, rfl, rfl, fi rfl (by dsimp only; omega), trivial⟩ (ir2 (by first | rfl | (dsimp only; omega)) ?_ rfl)⟩
                    dsimp only
                    rw [Note.laid_step (t := _) (by omega) (show (b.parts.getD k ⟨false, []⟩).laid = [2] by unfold Note.Part.laid; rw [if_pos (by assumption)])]
                    exact Note.snoc_str _ _ _ rfl
                  · (try simp only [decide_eq_true_eq, decide_eq_false_iff_not, Bool.not_eq_true', Bool.not_eq_false', Bool.and_eq_true, Bool.not_eq_true, Bool.not_eq_false] at hc78); (exfalso; simp_all)
            · first
              | fail
              | skip
                clear H64; intro H85
                try simp only [decide_eq_true_eq, decide_eq_false_iff_not, Bool.not_eq_true', Bool.not_eq_false', Bool.and_eq_true, Bool.not_eq_true, Bool.not_eq_false] at hg65
                refine skip rfl rfl rfl H85 ?_
                clear H85; intro a86 H86
                refine skip rfl rfl rfl H86 ?_
                clear H86; intro a87 H87
                refine skip rfl rfl rfl H87 ?_
                clear H87; intro a88 H88
                refine plain (y_pick_f rfl rfl rfl) rfl rfl rfl H88 ?_
                clear H88; intro a89 H89
                refine plain (y_assign rfl rfl) rfl rfl rfl H89 ?_
                clear H89; intro a90 H90
                refine fin ?_
                refine then_n ?_
                refine cnd_f H90 rfl ?_
                refine wp_seq ?_
                refine reg ?_
                refine plain (y_fieldB rfl z_field75_0 rfl (by first | (simp only [Nat.zero_add, Nat.add_zero, Nat.reduceAdd]; rfl) | rfl)) rfl rfl rfl H90 ?_
                clear H90; intro a92 H92
                refine plain (y_loadB rfl z_agg4 rfl (by repeat (first | exact Mh | apply Mt)) q_ix_c2_0) rfl rfl rfl H92 ?_
                clear H92; intro a93 H93
                refine plain (y_assign rfl rfl) rfl rfl rfl H93 ?_
                clear H93; intro a94 H94
                refine fin ?_
                refine then_n ?_
                refine cnd H94 rfl (fun hc95 => ?_) (fun hc95 => ?_) -- cond 9
                · (try simp only [decide_eq_true_eq, decide_eq_false_iff_not, Bool.not_eq_true', Bool.not_eq_false', Bool.and_eq_true, Bool.not_eq_true, Bool.not_eq_false] at hc95); (exfalso; simp_all)
                · skip
                  try simp only [decide_eq_true_eq, decide_eq_false_iff_not, Bool.not_eq_true', Bool.not_eq_false', Bool.and_eq_true, Bool.not_eq_true, Bool.not_eq_false] at hc95
                  refine reg ?_
                  refine plain (y_move rfl rfl) rfl rfl rfl H94 ?_
                  clear H94; intro a96 H96
                  refine plain (y_fieldB rfl z_field75_1 rfl (by first | (simp only [Nat.zero_add, Nat.add_zero, Nat.reduceAdd]; rfl) | rfl)) rfl rfl rfl H96 ?_
                  clear H96; intro a97 H97
                  refine plain (y_loadB rfl z_agg9 rfl (by repeat (first | exact Mh | apply Mt)) q_ix_c2_1) rfl rfl rfl H97 ?_
                  clear H97; intro a98 H98
                  have hpt := wf.texts (b.parts.getD k ⟨false, []⟩) (by rw [Oct.getD_eq _ (by omega)]; exact List.getElem_mem _)
                  refine plain (y_sadd rfl rfl rfl (by simp only [List.length_cons, List.length_nil]; omega)) rfl rfl rfl H98 ?_
                  clear H98; intro a99 H99
                  refine st_buildSlice1 (xs := [.tmp 40]) rfl Tryd.underlying49 z_size9 z_zero9 rfl rfl rfl rfl rfl rfl rfl rfl rfl H99 ?_
                  clear H99; intro b100 a100 wx100 H100
                  refine st_append rfl z_slice49 z_notint49 rfl rfl (fun _ => (by repeat (first | exact Uh | apply Ut))) (fun w hs => Src.slice ((rd_blkA (by repeat (first | exact Mh | apply Mt))) w hs) rfl (by simp [Value.oneCell'])) (by unfold maxLen at *; first | omega | (simp only [List.length_cons, List.length_nil, List.length_append, List.length_map]; omega)) (by first | omega | (simp only [List.length_cons, List.length_nil, List.length_append, List.length_map]; omega)) rfl rfl rfl H100 ?_
                  clear H100; intro v101 a101 wx101 hnil101 H101
                  obtain ⟨Ar101, cr101, hvr101, hRr101, hmr101⟩ := row_shape (v := v101) H101.sep (by repeat (first | exact Mh | apply Mt))
                  subst hvr101
                  refine plain (y_assign rfl rfl) rfl rfl rfl H101 ?_
                  clear H101; intro a102 H102
                  refine fin ?_
                  refine inb_n ?_
                  refine inb_n ?_
                  refine then_n ?_
                  refine reg ?_
                  refine plain (y_add rfl rfl rfl (by first | exact w64 (by omega) (by omega) | rfl)) rfl rfl rfl H102 ?_
                  clear H102; intro a103 H103
                  refine plain (y_move rfl rfl) rfl rfl rfl H103 ?_
                  clear H103; intro a104 H104
                  refine fin ?_
                  refine then_n ?_
                  have hpk : (b.parts.getD k ⟨false, []⟩).ok = true := by rw [Note.Part.ok_is]; exact decide_eq_true (by refine ⟨fun h => ?_, fun _ => by omega⟩; simp_all)
                  refine ⟨(k + 1, (.slice Ar101 _ cr101)), by dsimp only; omega, ⟨by dsimp only; omega, Note.take_all ⟨false, []⟩ (by omega) hok.2 hpk⟩, (H104.drop (by first | exact S0 | exact S1 | repeat (first | exact S1 | exact S0 | apply S2 | apply S3))).weak ⟨rfl, rfl, rfl, rfl, fi rfl (by dsimp only; omega), trivial⟩ (ir2 (by first | rfl | (dsimp only; omega)) ?_ rfl)⟩
                  dsimp only
                  rw [Note.laid_step (t := _) (by omega) (show (b.parts.getD k ⟨false, []⟩).laid = 1 :: (b.parts.getD k ⟨false, []⟩).text by unfold Note.Part.laid; rw [if_neg (by simp_all)])]
                  exact Note.snoc_str _ _ _ rfl
        · skip
          try simp only [decide_eq_true_eq, decide_eq_false_iff_not, Bool.not_eq_true', Bool.not_eq_false', Bool.and_eq_true, Bool.not_eq_true, Bool.not_eq_false] at hc48
          refine wp_exit ?_
          refine then_x ?_
          refine then_x ?_
          refine inb_hit ?_
          refine then_n ?_
          refine wp_seq ?_
          refine reg ?_
          refine plain (y_move rfl rfl) rfl rfl rfl H47 ?_
          clear H47; intro a105 H105
          refine st_callg rfl z_call35 rfl rfl rfl rfl H105 (nwrite ([Note.num b.seq, Note.num b.first, Note.num b.before] ++ (b.parts.take k).map Note.Part.laid) _ _ _ (by simp; omega) (Rd.ofSep (rd_row (by repeat (first | exact Mh | apply Mt))) H105.sep) (by simp; omega)) ?_
          clear H105; intro a106 wx106 H106
          refine plain (y_extract rfl rfl rfl) rfl rfl rfl H106 ?_
          clear H106; intro a107 H107
          refine plain (y_extract rfl rfl rfl) rfl rfl rfl H107 ?_
          clear H107; intro a108 H108
          refine plain (y_assign rfl rfl) rfl rfl rfl H108 ?_
          clear H108; intro a109 H109
          refine plain (y_assign rfl rfl) rfl rfl rfl H109 ?_
          clear H109; intro a110 H110
          refine fin ?_
          refine then_n ?_
          refine wp_ret ?_
          -- return 5
          refine ret2 rfl H110 rfl rfl ?_
          refine ⟨_, [], rfl, ⟨?_, rfl⟩, H110.sep.sub (List.nil_sublist _)⟩
          clear H110
          first | (rw [Note.writeBatch_bad (by intro h; first | omega | exact Bool.noConfusion (h.1.symm.trans (show Note.nums [b.seq, b.first, b.before] = false by assumption)))]) | (rw [Note.writeBatch_at (k := k) (by omega) (by first | exact Note.Part.ok_long (by omega) | exact Note.Part.ok_full (by assumption) (by assumption))]) | (rw [Note.writeBatch_ok (k := k) (by assumption) (by omega) hok.2 (by omega)])

end Go.Proofs.YtnnhnnhdoipbaaaDoor.N_WBatch

set_option linter.unusedVariables false
set_option linter.unusedSimpArgs false
namespace Go.Proofs.YtnnhnnhdoipbaaaDoor.N_RBatch
open Go.Sx Go.RowKit Go.Proofs.YtnnhnnhdoipbaaaDoor.N_Num Go.Proofs.YtnnhnnhdoipbaaaDoor.N_Read Go.Proofs.YtnnhnnhdoipbaaaDoor.N_Lay Go.Proofs.YtnnhnnhdoipbaaaDoor.N_Fields

theorem z_zeroN42 : zeroL Tryd.prog 42 = some ((.int .i64 0 :: (.int .i64 0 :: (.int .i64 0 :: (.slice none 0 0 :: []))))) := by kernel_rfl
theorem z_field42_0 : fieldB Tryd.prog 42 0 = some 0 := by kernel_rfl
theorem z_field42_1 : fieldB Tryd.prog 42 1 = some 1 := by kernel_rfl
theorem z_field42_2 : fieldB Tryd.prog 42 2 = some 2 := by kernel_rfl
theorem z_size80 : sizeB Tryd.prog 80 = some 1 := by kernel_rfl
theorem z_zero80 : zeroL Tryd.prog 80 = some ([.pointer none]) := by kernel_rfl
theorem z_call51 : callB Tryd.prog 51 = true := by kernel_rfl
theorem z_agg3 : aggB Tryd.prog 3 = some false := by kernel_rfl
theorem q_ix_c4_0 {a0 a1 a2 a3 : Value} : (a0 :: a1 :: a2 :: a3 :: [])[0]? = some a0 := ix_0
theorem q_ix_c4_1 {a0 a1 a2 a3 : Value} : (a0 :: a1 :: a2 :: a3 :: [])[1]? = some a1 := (ix_c (o := 0) ix_0)
theorem q_ix_c4_2 {a0 a1 a2 a3 : Value} : (a0 :: a1 :: a2 :: a3 :: [])[2]? = some a2 := (ix_c (o := 1) (ix_c (o := 0) ix_0))
theorem z_size3 : sizeB Tryd.prog 3 = some 1 := by kernel_rfl
theorem z_zero3 : zeroL Tryd.prog 3 = some ([.int .i64 0]) := by kernel_rfl
theorem z_call47 : callB Tryd.prog 47 = true := by kernel_rfl
theorem z_size9 : sizeB Tryd.prog 9 = some 1 := by kernel_rfl
theorem z_agg9 : aggB Tryd.prog 9 = some false := by kernel_rfl
theorem z_places42 : placesB Tryd.prog 42 = some [(0, 1), (1, 1), (2, 1), (3, 1)] := by kernel_rfl
theorem z_size42 : sizeB Tryd.prog 42 = some 4 := by kernel_rfl
theorem q_one_c4 {a0 a1 a2 a3 : Value} (o0 : a0.oneCell' = true) (o1 : a1.oneCell' = true) (o2 : a2.oneCell' = true) (o3 : a3.oneCell' = true) : (a0 :: a1 :: a2 :: a3 :: []).all (·.oneCell') = true := (one_c o0 (one_c o1 (one_c o2 (one_c o3 one_n))))
theorem q_len_c4 {a0 a1 a2 a3 : Value} : (a0 :: a1 :: a2 :: a3 :: []).length = 4 := (len_c (n := 3) (len_c (n := 2) (len_c (n := 1) (len_c (n := 0) len_n))))
theorem q_spl_c4_0_c4 {a0 a1 a2 a3 : Value} {b0 b1 b2 b3 : Value} : spl (a0 :: a1 :: a2 :: a3 :: []) 0 (b0 :: b1 :: b2 :: b3 :: []) = b0 :: b1 :: b2 :: b3 :: [] := (spl_a (z := 4) (len_c (n := 3) (len_c (n := 2) (len_c (n := 1) (len_c (n := 0) len_n)))) (len_c (n := 3) (len_c (n := 2) (len_c (n := 1) (len_c (n := 0) len_n)))))
theorem z_agg42 : aggB Tryd.prog 42 = some true := by kernel_rfl
theorem z_field42_3 : fieldB Tryd.prog 42 3 = some 3 := by kernel_rfl
theorem z_agg40 : aggB Tryd.prog 40 = some false := by kernel_rfl
theorem q_ix_c4_3 {a0 a1 a2 a3 : Value} : (a0 :: a1 :: a2 :: a3 :: [])[3]? = some a3 := (ix_c (o := 2) (ix_c (o := 1) (ix_c (o := 0) ix_0)))
theorem z_zeroN75 : zeroL Tryd.prog 75 = some ((.bool false :: (.string ⟨#[]⟩ :: []))) := by kernel_rfl
theorem z_places75 : placesB Tryd.prog 75 = some [(0, 1), (1, 1)] := by kernel_rfl
theorem q_len_c2 {a0 a1 : Value} : (a0 :: a1 :: []).length = 2 := (len_c (n := 1) (len_c (n := 0) len_n))
theorem q_spl_c2_0_c1 {a0 a1 : Value} {b0 : Value} : spl (a0 :: a1 :: []) 0 (b0 :: []) = b0 :: a1 :: [] := spl_0
theorem z_size75 : sizeB Tryd.prog 75 = some 2 := by kernel_rfl
theorem z_zero75 : zeroL Tryd.prog 75 = some ([.bool false, .string ⟨#[]⟩]) := by kernel_rfl
theorem z_slice40 : sliceB Tryd.prog 40 = some (75, 2, 24) := by kernel_rfl
theorem z_notint40 : notIntB Tryd.prog 40 = true := by kernel_rfl
theorem z_size40 : sizeB Tryd.prog 40 = some 1 := by kernel_rfl
theorem q_set_c4_3 {a0 a1 a2 a3 : Value} {v : Value} : (a0 :: a1 :: a2 :: a3 :: []).set 3 v = a0 :: a1 :: a2 :: v :: [] := (set_c (o := 2) (set_c (o := 1) (set_c (o := 0) set_0)))
theorem q_spl_c2_1_c1 {a0 a1 : Value} {b0 : Value} : spl (a0 :: a1 :: []) 1 (b0 :: []) = a0 :: b0 :: [] := (spl_c (o := 0) spl_0)
theorem q_ld_c4_0_4 {a0 a1 a2 a3 : Value} : ((a0 :: a1 :: a2 :: a3 :: []).drop 0).take 4 = a0 :: a1 :: a2 :: a3 :: [] := (ld_a (len_c (n := 3) (len_c (n := 2) (len_c (n := 1) (len_c (n := 0) len_n)))))

set_option maxRecDepth 100000 in
set_option maxHeartbeats 2000000 in
theorem nreadbatch (s : List UInt8) (hs : s.length ≤ 140737488351232) {w : World}  : Calls Tryd.prog 29 #[str s] w (Post [] w (fun u l => ∃ (A : Option Addr) (c : Nat), u = .tuple #[.agg (Note.Batch.cells (Note.readBatch s).1 A c).toArray, .int .i64 (Note.readBatch s).2] ∧ l = [It.row 75 2 (.slice A (Note.readBatch s).1.parts.length c) (Note.readBatch s).1.parts.length (Note.pc (Note.readBatch s).1.parts)])) := by
  have lz32 : (List.replicate 32 (0 : UInt8)).length = 32 := List.length_replicate
  refine enterL (args := [str s]) Tryd.func29 rfl rfl (l := []) (Sep.refl _) ?_
  intro a0 H0
  refine wp_seq ?_
  refine reg ?_
  refine st_alloc rfl z_zeroN42 rfl rfl rfl H0 ?_
  clear H0; intro b1 a1 wx1 H1
  refine plain (y_assign rfl rfl) rfl rfl rfl H1 ?_
  clear H1; intro a2 H2
  refine fin ?_
  refine then_n ?_
  refine wp_scope_straight ?_
  refine wp_seq ?_
  refine reg ?_
  refine st_alloc rfl z_zeroN42 rfl rfl rfl H2 ?_
  clear H2; intro b3 a3 wx3 H3
  refine fin ?_
  refine then_n ?_
  refine wp_seq ?_
  refine reg ?_
  refine plain (y_move rfl rfl) rfl rfl rfl H3 ?_
  clear H3; intro a4 H4
  refine plain (y_fieldB rfl z_field42_0 rfl (by first | (simp only [Nat.zero_add, Nat.add_zero, Nat.reduceAdd]; rfl) | rfl)) rfl rfl rfl H4 ?_
  clear H4; intro a5 H5
  refine plain (y_fieldB rfl z_field42_1 rfl (by first | (simp only [Nat.zero_add, Nat.add_zero, Nat.reduceAdd]; rfl) | rfl)) rfl rfl rfl H5 ?_
  clear H5; intro a6 H6
  refine plain (y_fieldB rfl z_field42_2 rfl (by first | (simp only [Nat.zero_add, Nat.add_zero, Nat.reduceAdd]; rfl) | rfl)) rfl rfl rfl H6 ?_
  clear H6; intro a7 H7
  refine st_buildSlice1 (xs := [.tmp 11, .tmp 12, .tmp 13]) rfl Tryd.underlying90 z_size80 z_zero80 rfl rfl rfl rfl rfl rfl rfl rfl rfl H7 ?_
  clear H7; intro b8 a8 wx8 H8
  refine st_callw (i := It.blk b3 42 _) rfl z_call51 rfl rfl rfl rfl H8 (fun _ => (by repeat (first | exact Uh | apply Ut))) (nfields s (by omega) b3 42 ([i64 0, i64 0, i64 0, .slice none 0 0]) 3 (by decide) (by decide) _ _ (H8.sep.all _ (by repeat (first | exact Mh | apply Mt))) (Rd.ofSep (rd_blkA (by repeat (first | exact Mh | apply Mt))) H8.sep) (by intro ad e; injection e with e; subst e; exact fun h => (blk_row_ne H8.sep (by first | exact S0 | exact S1 | repeat (first | exact S1 | exact S0 | apply S2 | apply S3))) h)) ?_
  clear H8; intro v9 i9 R9 a9 wx9 hf9 H9
  obtain ⟨cs', rfl, hf9⟩ := hf9
  rcases hf9 with ⟨ns, A', c', L, hfs, rfl, hnl, rfl, hkL, hLx, hLc, rfl, hnr, hLb⟩ | ⟨hfs, rfl, rfl⟩
  · skip
    obtain ⟨n0, n1, n2, rfl⟩ := Note.three hnl
    simp only [List.cons_append, List.nil_append] at H9
    refine plain (y_move rfl rfl) rfl rfl rfl H9 ?_
    clear H9; intro a10 H10
    refine plain (y_extract rfl rfl rfl) rfl rfl rfl H10 ?_
    clear H10; intro a11 H11
    refine plain (y_extract rfl rfl rfl) rfl rfl rfl H11 ?_
    clear H11; intro a12 H12
    refine plain (y_assign rfl rfl) rfl rfl rfl H12 ?_
    clear H12; intro a13 H13
    refine plain (y_assign rfl rfl) rfl rfl rfl H13 ?_
    clear H13; intro a14 H14
    refine fin ?_
    refine then_n ?_
    refine wp_seq ?_
    refine reg ?_
    refine plain (y_move rfl rfl) rfl rfl rfl H14 ?_
    clear H14; intro a15 H15
    refine plain (y_move rfl rfl) rfl rfl rfl H15 ?_
    clear H15; intro a16 H16
    refine plain (y_fieldB rfl z_field42_0 rfl (by first | (simp only [Nat.zero_add, Nat.add_zero, Nat.reduceAdd]; rfl) | rfl)) rfl rfl rfl H16 ?_
    clear H16; intro a17 H17
    refine plain (y_loadB rfl z_agg3 rfl (by repeat (first | exact Mh | apply Mt)) q_ix_c4_0) rfl rfl rfl H17 ?_
    clear H17; intro a18 H18
    refine plain (y_fieldB rfl z_field42_1 rfl (by first | (simp only [Nat.zero_add, Nat.add_zero, Nat.reduceAdd]; rfl) | rfl)) rfl rfl rfl H18 ?_
    clear H18; intro a19 H19
    refine plain (y_loadB rfl z_agg3 rfl (by repeat (first | exact Mh | apply Mt)) q_ix_c4_1) rfl rfl rfl H19 ?_
    clear H19; intro a20 H20
    refine plain (y_fieldB rfl z_field42_2 rfl (by first | (simp only [Nat.zero_add, Nat.add_zero, Nat.reduceAdd]; rfl) | rfl)) rfl rfl rfl H20 ?_
    clear H20; intro a21 H21
    refine plain (y_loadB rfl z_agg3 rfl (by repeat (first | exact Mh | apply Mt)) q_ix_c4_2) rfl rfl rfl H21 ?_
    clear H21; intro a22 H22
    refine st_buildSlice1 (xs := [.tmp 21, .tmp 23, .tmp 25]) rfl Tryd.underlying83 z_size3 z_zero3 rfl rfl rfl rfl rfl rfl rfl rfl rfl H22 ?_
    clear H22; intro b23 a23 wx23 H23
    refine st_callg rfl z_call47 rfl rfl rfl rfl H23 (nnum [n0, n1, n2] _ _ _ rfl (by simp) (Rd.ofSep (rd_blkA (by repeat (first | exact Mh | apply Mt))) H23.sep)) ?_
    clear H23; intro a24 wx24 H24
    refine plain (y_pick_t rfl rfl rfl) rfl rfl rfl H24 ?_
    clear H24; intro a25 H25
    refine plain (y_move rfl rfl) rfl rfl rfl H25 ?_
    clear H25; intro a26 H26
    refine Sx.part (d := 29) H26 rfl (fun hg27 => ?_) (fun hg27 => ?_)
    · first
      | fail
      | skip
        clear H26; intro H28
        try simp only [decide_eq_true_eq, decide_eq_false_iff_not, Bool.not_eq_true', Bool.not_eq_false', Bool.and_eq_true, Bool.not_eq_true, Bool.not_eq_false] at hg27
        have hnn := hg27
        refine plain (y_move rfl rfl) rfl rfl rfl H28 ?_
        clear H28; intro a29 H29
        refine plain (y_len rfl Tryd.underlying49 rfl) rfl rfl rfl H29 ?_
        clear H29; intro a30 H30
        refine plain (y_leq rfl rfl rfl) rfl rfl rfl H30 ?_
        clear H30; intro a31 H31
        refine plain (y_pick_t rfl rfl rfl) rfl rfl rfl H31 ?_
        clear H31; intro a32 H32
        refine plain (y_assign rfl rfl) rfl rfl rfl H32 ?_
        clear H32; intro a33 H33
        refine fin ?_
        refine then_n ?_
        refine wp_seq ?_
        refine wp_label ?_
        refine then_n ?_
        refine wp_seq ?_
        refine wp_seq ?_
        refine reg ?_
        refine plain (y_move rfl rfl) rfl rfl rfl H33 ?_
        clear H33; intro a34 H34
        refine plain (y_len rfl Tryd.underlying49 rfl) rfl rfl rfl H34 ?_
        clear H34; intro a35 H35
        refine plain (y_move rfl rfl) rfl rfl rfl H35 ?_
        clear H35; intro a36 H36
        refine fin ?_
        refine then_n ?_
        refine wp_block ?_
        replace H36 := H36.nilRow 75 2
        refine loop (ι := Nat × Bool × List Note.Part × Value) (fun x => [(2, .pointer (some ⟨b1, 0, none⟩)), (4, .pointer (some ⟨b3, 0, none⟩)), (6, .bool x.2.1), (34, .slice (if c' = 3 then A' else A'.map (·.add (3 * 1))) (L.length - 3) (c' - 3)), (35, .int .i64 ((L.length - 3 : Nat) : Int)), (36, .int .i64 (x.1 : Int))]) (fun x => [It.row 75 2 x.2.2.2 x.2.2.1.length (Note.pc x.2.2.1), It.row 9 1 (.slice A' L.length c') L.length (L.map str), It.blk b3 42 [i64 n0, i64 n1, i64 n2, x.2.2.2], It.blk b1 42 [i64 0, i64 0, i64 0, .slice none 0 0]]) (fun x => x.1 ≤ L.length - 3 ∧ x.2.2.1.length ≤ x.1 ∧ (x.2.1 = true → (Note.nums [n0, n1, n2] = true ∧ (L.drop 3).length ≤ 512) ∧ Note.parts ((L.drop 3).take x.1) = some x.2.2.1) ∧ (x.2.1 = false → Note.readBatch s = (Note.Batch.zero, 6))) (fun x => L.length - 3 - x.1) ((0, decide (((L.length - 3 : Nat) : Int) ≤ 512), [], .slice none 0 0)) ⟨Nat.zero_le _, Nat.zero_le _, (fun h => ⟨⟨hnn, by have h := of_decide_eq_true h; rw [List.length_drop]; omega⟩, rfl⟩), fun h => Note.readBatch_bad hfs (by intro h1; have h := of_decide_eq_false h; rw [List.length_drop] at h1; omega)⟩ ((H36.drop (by first | exact S0 | exact S1 | repeat (first | exact S1 | exact S0 | apply S2 | apply S3))).weak ⟨rfl, rfl, rfl, rfl, rfl, rfl, trivial⟩ (ir2 rfl rfl rfl)) ?_
        clear H36; intro x a37 wx37 hok37 H37
        obtain ⟨k, okv, ps, v⟩ := x
        dsimp only at hok37 H37
        obtain ⟨hk3, hpsl, hokt, hokf⟩ := hok37
        have hlt : (L.drop 3).length = L.length - 3 := List.length_drop
        obtain ⟨Av, cv, hv, hRv, hmv⟩ := row_shape (v := v) H37.sep (by repeat (first | exact Mh | apply Mt))
        subst hv
        refine wp_seq ?_
        refine reg ?_
        refine plain (y_lss rfl rfl rfl) rfl rfl rfl H37 ?_
        clear H37; intro a38 H38
        refine fin ?_
        refine then_n ?_
        refine wp_seq ?_
        refine cnd H38 rfl (fun hc39 => ?_) (fun hc39 => ?_) -- cond 1
        · skip
          try simp only [decide_eq_true_eq, decide_eq_false_iff_not, Bool.not_eq_true', Bool.not_eq_false', Bool.and_eq_true, Bool.not_eq_true, Bool.not_eq_false] at hc39
          refine wp_skip ?_
          refine then_n ?_
          refine wp_seq ?_
          refine wp_block ?_
          refine wp_seq ?_
          refine reg ?_
          refine plain (y_ixR rfl Tryd.underlying49 z_size9 rfl rfl (by omega) (by omega) (fun w hs => (rd_row (by repeat (first | exact Mh | apply Mt)) w hs).drop 3 (c' = 3) (fun h => by rw [List.length_map]; omega)) (by rw [List.length_drop, List.length_map]; omega)) rfl rfl rfl H38 ?_
          clear H38; intro a40 H40
          refine plain (y_loadR rfl z_agg9 rfl (fun w hs => (rd_row (by repeat (first | exact Mh | apply Mt)) w hs).drop 3 (c' = 3) (fun h => by rw [List.length_map]; omega)) (show _ = some (str ((L.drop 3).getD k [])) by rw [show (k : Int).toNat * 1 = k by omega]; exact Note.rest_get 3 k (by omega))) rfl rfl rfl H40 ?_
          clear H40; intro a41 H41
          refine plain (y_assign rfl rfl) rfl rfl rfl H41 ?_
          clear H41; intro a42 H42
          refine fin ?_
          refine then_n ?_
          refine wp_block ?_
          refine wp_seq ?_
          refine reg ?_
          refine plain (y_move rfl rfl) rfl rfl rfl H42 ?_
          clear H42; intro a43 H43
          refine plain ((by first | exact y_not_d rfl rfl | exact y_not rfl rfl)) rfl rfl rfl H43 ?_
          clear H43; intro a44 H44
          refine plain (y_move rfl rfl) rfl rfl rfl H44 ?_
          clear H44; intro a45 H45
          refine Sx.part (d := 43) H45 rfl (fun hg46 => ?_) (fun hg46 => ?_)
          · first
            | fail
            | skip
              clear H45; intro H47
              try simp only [decide_eq_true_eq, decide_eq_false_iff_not, Bool.not_eq_true', Bool.not_eq_false', Bool.and_eq_true, Bool.not_eq_true, Bool.not_eq_false] at hg46
              refine skip rfl rfl rfl H47 ?_
              clear H47; intro a48 H48
              refine skip rfl rfl rfl H48 ?_
              clear H48; intro a49 H49
              refine plain (y_pick_t rfl rfl rfl) rfl rfl rfl H49 ?_
              clear H49; intro a50 H50
              refine plain (y_assign rfl rfl) rfl rfl rfl H50 ?_
              clear H50; intro a51 H51
              refine fin ?_
              refine then_n ?_
              refine cnd_t H51 rfl ?_
              refine wp_seq ?_
              refine reg ?_
              refine plain (y_assign rfl rfl) rfl rfl rfl H51 ?_
              clear H51; intro a53 H53
              refine fin ?_
              refine then_n ?_
              refine wp_exit ?_
              refine inb_miss rfl ?_
              refine inb_miss rfl ?_
              refine then_x ?_
              refine then_x ?_
              refine inb_hit ?_
              refine then_n ?_
              refine wp_seq ?_
              refine wp_seq ?_
              refine reg ?_
              refine plain (y_move rfl rfl) rfl rfl rfl H53 ?_
              clear H53; intro a54 H54
              refine plain (y_not rfl rfl) rfl rfl rfl H54 ?_
              clear H54; intro a55 H55
              refine fin ?_
              refine then_n ?_
              refine cnd_t H55 rfl ?_
              refine wp_seq ?_
              refine reg ?_
              refine plain (y_build rfl z_zeroN42 z_places42 rfl lay_n) rfl rfl rfl H55 ?_
              clear H55; intro a57 H57
              refine st_storeN rfl z_size42 rfl rfl (agg_cells _) (by repeat (first | exact Uh | apply Ut)) (q_one_c4 rfl rfl rfl rfl) q_len_c4 q_len_c4 q_spl_c4_0_c4 (by decide) rfl rfl H57 ?_
              clear H57; intro wx58 H58
              refine plain (y_assign rfl rfl) rfl rfl rfl H58 ?_
              clear H58; intro a59 H59
              refine fin ?_
              refine then_n ?_
              refine wp_ret ?_
              refine then_r ?_
              refine ng_r ?_
              -- return 1
              refine retct rfl H59 rfl z_agg42 z_size42 (by repeat (first | exact Mh | apply Mt)) q_len_c4 rfl ?_
              first | (rw [Note.readBatch_none hfs]; exact ⟨_, _, rfl, ⟨none, 0, rfl, rfl⟩, (H59.sep.sub (List.nil_sublist _)).addNil 75 2⟩) | (rw [hokf (by assumption)]; exact ⟨_, _, rfl, ⟨none, 0, rfl, rfl⟩, (H59.sep.sub (List.nil_sublist _)).addNil 75 2⟩) | (rw [Note.readBatch_at hfs (k := k) (by omega) (by rw [show (L.drop 3).getD k [] = [] by assumption]; exact Note.part_none Note.nil2 (.inl rfl))]; exact ⟨_, _, rfl, ⟨none, 0, rfl, rfl⟩, (H59.sep.sub (List.nil_sublist _)).addNil 75 2⟩) | (obtain ⟨hG_, hps⟩ := hokt (by assumption); rw [Note.readBatch_ok hfs hG_.1 hG_.2 (k := k) (by omega) hps]; exact ⟨_, _, rfl, ⟨_, _, rfl, rfl⟩, H59.sep.sub (by first | exact S0 | exact S1 | repeat (first | exact S1 | exact S0 | apply S2 | apply S3))⟩)
          · first
            | fail
            | skip
              clear H45; intro H60
              try simp only [decide_eq_true_eq, decide_eq_false_iff_not, Bool.not_eq_true', Bool.not_eq_false', Bool.and_eq_true, Bool.not_eq_true, Bool.not_eq_false] at hg46
              refine plain (y_move rfl rfl) rfl rfl rfl H60 ?_
              clear H60; intro a61 H61
              refine plain (y_seql rfl rfl rfl) rfl rfl rfl H61 ?_
              clear H61; intro a62 H62
              refine plain (y_pick_f rfl rfl rfl) rfl rfl rfl H62 ?_
              clear H62; intro a63 H63
              refine plain (y_assign rfl rfl) rfl rfl rfl H63 ?_
              clear H63; intro a64 H64
              refine fin ?_
              refine then_n ?_
              refine cnd H64 rfl (fun hc65 => ?_) (fun hc65 => ?_) -- cond 4
              · skip
                try simp only [decide_eq_true_eq, decide_eq_false_iff_not, Bool.not_eq_true', Bool.not_eq_false', Bool.and_eq_true, Bool.not_eq_true, Bool.not_eq_false] at hc65
                refine wp_seq ?_
                refine reg ?_
                refine plain (y_assign rfl rfl) rfl rfl rfl H64 ?_
                clear H64; intro a66 H66
                refine fin ?_
                refine then_n ?_
                refine wp_exit ?_
                refine inb_miss rfl ?_
                refine inb_miss rfl ?_
                refine then_x ?_
                refine then_x ?_
                refine inb_hit ?_
                refine then_n ?_
                refine wp_seq ?_
                refine wp_seq ?_
                refine reg ?_
                refine plain (y_move rfl rfl) rfl rfl rfl H66 ?_
                clear H66; intro a67 H67
                refine plain (y_not rfl rfl) rfl rfl rfl H67 ?_
                clear H67; intro a68 H68
                refine fin ?_
                refine then_n ?_
                refine cnd_t H68 rfl ?_
                refine wp_seq ?_
                refine reg ?_
                refine plain (y_build rfl z_zeroN42 z_places42 rfl lay_n) rfl rfl rfl H68 ?_
                clear H68; intro a70 H70
                refine st_storeN rfl z_size42 rfl rfl (agg_cells _) (by repeat (first | exact Uh | apply Ut)) (q_one_c4 rfl rfl rfl rfl) q_len_c4 q_len_c4 q_spl_c4_0_c4 (by decide) rfl rfl H70 ?_
                clear H70; intro wx71 H71
                refine plain (y_assign rfl rfl) rfl rfl rfl H71 ?_
                clear H71; intro a72 H72
                refine fin ?_
                refine then_n ?_
                refine wp_ret ?_
                refine then_r ?_
                refine ng_r ?_
                -- return 2
                refine retct rfl H72 rfl z_agg42 z_size42 (by repeat (first | exact Mh | apply Mt)) q_len_c4 rfl ?_
                first | (rw [Note.readBatch_none hfs]; exact ⟨_, _, rfl, ⟨none, 0, rfl, rfl⟩, (H72.sep.sub (List.nil_sublist _)).addNil 75 2⟩) | (rw [hokf (by assumption)]; exact ⟨_, _, rfl, ⟨none, 0, rfl, rfl⟩, (H72.sep.sub (List.nil_sublist _)).addNil 75 2⟩) | (rw [Note.readBatch_at hfs (k := k) (by omega) (by rw [show (L.drop 3).getD k [] = [] by assumption]; exact Note.part_none Note.nil2 (.inl rfl))]; exact ⟨_, _, rfl, ⟨none, 0, rfl, rfl⟩, (H72.sep.sub (List.nil_sublist _)).addNil 75 2⟩) | (obtain ⟨hG_, hps⟩ := hokt (by assumption); rw [Note.readBatch_ok hfs hG_.1 hG_.2 (k := k) (by omega) hps]; exact ⟨_, _, rfl, ⟨_, _, rfl, rfl⟩, H72.sep.sub (by first | exact S0 | exact S1 | repeat (first | exact S1 | exact S0 | apply S2 | apply S3))⟩)
              · skip
                try simp only [decide_eq_true_eq, decide_eq_false_iff_not, Bool.not_eq_true', Bool.not_eq_false', Bool.and_eq_true, Bool.not_eq_true, Bool.not_eq_false] at hc65
                refine wp_seq ?_
                refine reg ?_
                refine plain (y_move rfl rfl) rfl rfl rfl H64 ?_
                clear H64; intro a73 H73
                refine plain (y_seql rfl rfl rfl) rfl rfl rfl H73 ?_
                clear H73; intro a74 H74
                refine plain (y_assign rfl rfl) rfl rfl rfl H74 ?_
                clear H74; intro a75 H75
                refine fin ?_
                refine then_n ?_
                refine cnd H75 rfl (fun hc76 => ?_) (fun hc76 => ?_) -- cond 6
                · skip
                  try simp only [decide_eq_true_eq, decide_eq_false_iff_not, Bool.not_eq_true', Bool.not_eq_false', Bool.and_eq_true, Bool.not_eq_true, Bool.not_eq_false] at hc76
                  refine reg ?_
                  refine plain (y_fieldB rfl z_field42_3 rfl (by first | (simp only [Nat.zero_add, Nat.add_zero, Nat.reduceAdd]; rfl) | rfl)) rfl rfl rfl H75 ?_
                  clear H75; intro a77 H77
                  refine plain (y_loadB rfl z_agg40 rfl (by repeat (first | exact Mh | apply Mt)) q_ix_c4_3) rfl rfl rfl H77 ?_
                  clear H77; intro a78 H78
                  refine plain (y_build rfl z_zeroN75 z_places75 rfl (lay_1 (off := 0) (n := 2) rfl q_len_c2 (by decide) q_spl_c2_0_c1 lay_n (by rfl))) rfl rfl rfl H78 ?_
                  clear H78; intro a79 H79
                  refine st_buildSlice rfl Tryd.underlying40 z_size75 z_zero75 rfl rfl rfl (lay_agg (agg_cells _) rfl (by simp)) rfl rfl rfl H79 ?_
                  clear H79; intro b80 a80 wx80 H80
                  refine st_append rfl z_slice40 z_notint40 rfl rfl (fun _ => (by repeat (first | exact Uh | apply Ut))) (fun w hs => Src.slice ((rd_blkA (by repeat (first | exact Mh | apply Mt))) w hs) rfl (by simp [Value.oneCell'])) (by unfold maxLen at *; first | omega | (simp only [List.length_cons, List.length_nil, List.length_append, List.length_map]; omega)) (by omega) rfl rfl rfl H80 ?_
                  clear H80; intro v81 a81 wx81 hnil81 H81
                  obtain ⟨Ar81, cr81, hvr81, hRr81, hmr81⟩ := row_shape (v := v81) H81.sep (by repeat (first | exact Mh | apply Mt))
                  subst hvr81
                  refine plain (y_fieldB rfl z_field42_3 rfl (by first | (simp only [Nat.zero_add, Nat.add_zero, Nat.reduceAdd]; rfl) | rfl)) rfl rfl rfl H81 ?_
                  clear H81; intro a82 H82
                  refine st_store1N rfl z_size40 rfl rfl rfl (by repeat (first | exact Uh | apply Ut)) q_len_c4 q_set_c4_3 (by decide) rfl rfl H82 ?_
                  clear H82; intro wx83 H83
                  refine fin ?_
                  refine inb_n ?_
                  refine inb_n ?_
                  refine then_n ?_
                  refine reg ?_
                  refine plain (y_add rfl rfl rfl (by first | exact w64 (by omega) (by omega) | rfl)) rfl rfl rfl H83 ?_
                  clear H83; intro a84 H84
                  refine plain (y_move rfl rfl) rfl rfl rfl H84 ?_
                  clear H84; intro a85 H85
                  refine fin ?_
                  refine then_n ?_
                  refine ⟨(k + 1, okv, ps ++ [⟨true, []⟩], (.slice Ar81 _ cr81)), by dsimp only; omega, ⟨by dsimp only; omega, (by dsimp only; rw [List.length_append, List.length_singleton]; omega), ?_, ?_⟩, (H85.drop (by first | exact S0 | exact S1 | repeat (first | exact S1 | exact S0 | apply S2 | apply S3))).weak ⟨rfl, rfl, rfl, rfl, rfl, fi rfl (by dsimp only; omega), trivial⟩ (ir2 (by simp) (by rw [Note.pc_append, Note.pc_one]; rfl) rfl)⟩
                  · intro _
                    exact ⟨(hokt (by assumption)).1, Note.parts_step (by omega) (hokt (by assumption)).2 (show Note.part ((L.drop 3).getD k []) = some ⟨true, []⟩ by rw [show ((L.drop 3).getD k []) = [2] by assumption]; rfl)⟩
                  · intro h
                    exact hokf h
                · skip
                  try simp only [decide_eq_true_eq, decide_eq_false_iff_not, Bool.not_eq_true', Bool.not_eq_false', Bool.and_eq_true, Bool.not_eq_true, Bool.not_eq_false] at hc76
                  refine wp_seq ?_
                  refine reg ?_
                  refine plain (y_move rfl rfl) rfl rfl rfl H75 ?_
                  clear H75; intro a86 H86
                  have htl : ((L.drop 3).getD k []).length ≤ 65536 := hLb _ (by rw [Oct.getD_eq [] (by omega)]; exact List.mem_of_mem_drop (List.getElem_mem _))
                  have hne : 0 < ((L.drop 3).getD k []).length := List.length_pos_iff.2 (by assumption)
                  refine plain (y_sidx rfl Tryd.underlying9 rfl rfl (by omega) (by omega)) rfl rfl rfl H86 ?_
                  clear H86; intro a87 H87
                  refine plain (y_eql rfl rfl rfl) rfl rfl rfl H87 ?_
                  clear H87; intro a88 H88
                  refine plain (y_move rfl rfl) rfl rfl rfl H88 ?_
                  clear H88; intro a89 H89
                  refine Sx.part (d := 60) H89 rfl (fun hg90 => ?_) (fun hg90 => ?_)
                  · first
                    | fail
                    | skip
                      clear H89; intro H91
                      try simp only [decide_eq_true_eq, decide_eq_false_iff_not, Bool.not_eq_true', Bool.not_eq_false', Bool.and_eq_true, Bool.not_eq_true, Bool.not_eq_false] at hg90
                      refine plain (y_move rfl rfl) rfl rfl rfl H91 ?_
                      clear H91; intro a92 H92
                      refine plain (y_slen rfl Tryd.underlying9 rfl) rfl rfl rfl H92 ?_
                      clear H92; intro a93 H93
                      refine plain (y_sub rfl rfl rfl (by first | exact w64 (by omega) (by omega) | rfl)) rfl rfl rfl H93 ?_
                      clear H93; intro a94 H94
                      refine plain (y_leq rfl rfl rfl) rfl rfl rfl H94 ?_
                      clear H94; intro a95 H95
                      refine plain (y_pick_t rfl rfl rfl) rfl rfl rfl H95 ?_
                      clear H95; intro a96 H96
                      refine plain (y_assign rfl rfl) rfl rfl rfl H96 ?_
                      clear H96; intro a97 H97
                      refine fin ?_
                      refine then_n ?_
                      refine cnd H97 rfl (fun hc98 => ?_) (fun hc98 => ?_) -- cond 7
                      · skip
                        try simp only [decide_eq_true_eq, decide_eq_false_iff_not, Bool.not_eq_true', Bool.not_eq_false', Bool.and_eq_true, Bool.not_eq_true, Bool.not_eq_false] at hc98
                        refine hreg [] (fun _ h => (h.sub (by first | exact S0 | exact S1 | repeat (first | exact S1 | exact S0 | apply S2 | apply S3)))) (by kernel_rfl) H97 ?_
                        clear H97; intro wx99 H99
                        refine htake 0 rfl (by kernel_rfl) (y_fieldB rfl z_field42_3 rfl (by first | (simp only [Nat.zero_add, Nat.add_zero, Nat.reduceAdd]; rfl) | rfl)) rfl rfl rfl (fun _ h => (h.sub (by first | exact S0 | exact S1 | repeat (first | exact S1 | exact S0 | apply S2 | apply S3)))) H99 ?_
                        clear H99; intro a100 H100
                        refine htake 2 rfl (by kernel_rfl) (y_move rfl rfl) rfl rfl rfl (fun _ h => (h.sub (by first | exact S0 | exact S1 | repeat (first | exact S1 | exact S0 | apply S2 | apply S3)))) H100 ?_
                        clear H100; intro a101 H101
                        refine htake 3 rfl (by kernel_rfl) (y_sslice_lo rfl Tryd.underlying9 rfl rfl (by omega) (by omega)) rfl rfl rfl (fun _ h => (h.sub (by first | exact S0 | exact S1 | repeat (first | exact S1 | exact S0 | apply S2 | apply S3)))) H101 ?_
                        clear H101; intro a102 H102
                        refine htake 4 rfl (by kernel_rfl) (y_build rfl z_zeroN75 z_places75 rfl (lay_1 (off := 1) (n := 2) rfl q_len_c2 (by decide) q_spl_c2_1_c1 lay_n (by rfl))) rfl rfl rfl (fun _ h => (h.sub (by first | exact S0 | exact S1 | repeat (first | exact S1 | exact S0 | apply S2 | apply S3)))) H102 ?_
                        clear H102; intro a103 H103
                        refine hgo2 1 5 rfl rfl (by kernel_rfl) ?_ ?_
                        · skip
                          refine plain (y_loadB rfl z_agg40 rfl (by repeat (first | exact Mh | apply Mt)) q_ix_c4_3) rfl rfl rfl H103 ?_
                          clear H103; intro a104 H104
                          refine hfin (H104.sep.sub (by first | exact S0 | exact S1 | repeat (first | exact S1 | exact S0 | apply S2 | apply S3))) ?_
                          refine hgo 5 rfl (by kernel_rfl) ?_
                          refine st_buildSlice rfl Tryd.underlying40 z_size75 z_zero75 rfl rfl rfl (lay_agg (agg_cells _) rfl (by simp)) rfl rfl rfl H104 ?_
                          clear H104; intro b105 a105 wx105 H105
                          refine hfin (H105.sep.sub (by first | exact S0 | exact S1 | repeat (first | exact S1 | exact S0 | apply S2 | apply S3))) ?_
                          refine hgo 6 rfl (by kernel_rfl) ?_
                          refine st_append rfl z_slice40 z_notint40 rfl rfl (fun _ => (by repeat (first | exact Uh | apply Ut))) (fun w hs => Src.slice ((rd_blkA (by repeat (first | exact Mh | apply Mt))) w hs) rfl (by simp [Value.oneCell'])) (by unfold maxLen at *; first | omega | (simp only [List.length_cons, List.length_nil, List.length_append, List.length_map]; omega)) (by omega) rfl rfl rfl H105 ?_
                          clear H105; intro v106 a106 wx106 hnil106 H106
                          obtain ⟨Ar106, cr106, hvr106, hRr106, hmr106⟩ := row_shape (v := v106) H106.sep (by repeat (first | exact Mh | apply Mt))
                          subst hvr106
                          refine hfin (H106.sep.sub (by first | exact S0 | exact S1 | repeat (first | exact S1 | exact S0 | apply S2 | apply S3))) ?_
                          refine htake 7 rfl (by kernel_rfl) (y_fieldB rfl z_field42_3 rfl (by first | (simp only [Nat.zero_add, Nat.add_zero, Nat.reduceAdd]; rfl) | rfl)) rfl rfl rfl (fun _ h => (h.sub (by first | exact S0 | exact S1 | repeat (first | exact S1 | exact S0 | apply S2 | apply S3)))) H106 ?_
                          clear H106; intro a107 H107
                          refine hgo 8 rfl (by kernel_rfl) ?_
                          refine st_store1N rfl z_size40 rfl rfl rfl (by repeat (first | exact Uh | apply Ut)) q_len_c4 q_set_c4_3 (by decide) rfl rfl H107 ?_
                          clear H107; intro wx108 H108
                          refine hfin (H108.sep.sub (by first | exact S0 | exact S1 | repeat (first | exact S1 | exact S0 | apply S2 | apply S3))) ?_
                          refine hdone (by kernel_rfl) ?_
                          refine inb_n ?_
                          refine inb_n ?_
                          refine then_n ?_
                          refine reg ?_
                          refine plain (y_add rfl rfl rfl (by first | exact w64 (by omega) (by omega) | rfl)) rfl rfl rfl H108 ?_
                          clear H108; intro a109 H109
                          refine plain (y_move rfl rfl) rfl rfl rfl H109 ?_
                          clear H109; intro a110 H110
                          refine fin ?_
                          refine then_n ?_
                          refine ⟨(k + 1, okv, ps ++ [⟨false, ((L.drop 3).getD k []).drop 1⟩], (.slice Ar106 _ cr106)), by dsimp only; omega, ⟨by dsimp only; omega, (by dsimp only; rw [List.length_append, List.length_singleton]; omega), ?_, ?_⟩, (H110.drop (by first | exact S0 | exact S1 | repeat (first | exact S1 | exact S0 | apply S2 | apply S3))).weak ⟨rfl, rfl, rfl, rfl, rfl, fi rfl (by dsimp only; omega), trivial⟩ (ir2 (by simp) (by rw [Note.pc_append, Note.pc_one]; rfl) rfl)⟩
                          · intro _
                            exact ⟨(hokt (by assumption)).1, Note.parts_step (by omega) (hokt (by assumption)).2 (Note.part_text (by assumption) (by assumption) (by assumption) (by omega))⟩
                          · intro h
                            exact hokf h
                        · skip
                          refine st_buildSlice rfl Tryd.underlying40 z_size75 z_zero75 rfl rfl rfl (lay_agg (agg_cells _) rfl (by simp)) rfl rfl rfl H103 ?_
                          clear H103; intro b111 a111 wx111 H111
                          refine hfin (H111.sep.sub (by first | exact S0 | exact S1 | repeat (first | exact S1 | exact S0 | apply S2 | apply S3))) ?_
                          refine hgo 1 rfl (by kernel_rfl) ?_
                          refine plain (y_loadB rfl z_agg40 rfl (by repeat (first | exact Mh | apply Mt)) q_ix_c4_3) rfl rfl rfl H111 ?_
                          clear H111; intro a112 H112
                          refine hfin (H112.sep.sub (by first | exact S0 | exact S1 | repeat (first | exact S1 | exact S0 | apply S2 | apply S3))) ?_
                          refine hgo 6 rfl (by kernel_rfl) ?_
                          refine st_append rfl z_slice40 z_notint40 rfl rfl (fun _ => (by repeat (first | exact Uh | apply Ut))) (fun w hs => Src.slice ((rd_blkA (by repeat (first | exact Mh | apply Mt))) w hs) rfl (by simp [Value.oneCell'])) (by unfold maxLen at *; first | omega | (simp only [List.length_cons, List.length_nil, List.length_append, List.length_map]; omega)) (by omega) rfl rfl rfl H112 ?_
                          clear H112; intro v113 a113 wx113 hnil113 H113
                          obtain ⟨Ar113, cr113, hvr113, hRr113, hmr113⟩ := row_shape (v := v113) H113.sep (by repeat (first | exact Mh | apply Mt))
                          subst hvr113
                          refine hfin (H113.sep.sub (by first | exact S0 | exact S1 | repeat (first | exact S1 | exact S0 | apply S2 | apply S3))) ?_
                          refine htake 7 rfl (by kernel_rfl) (y_fieldB rfl z_field42_3 rfl (by first | (simp only [Nat.zero_add, Nat.add_zero, Nat.reduceAdd]; rfl) | rfl)) rfl rfl rfl (fun _ h => (h.sub (by first | exact S0 | exact S1 | repeat (first | exact S1 | exact S0 | apply S2 | apply S3)))) H113 ?_
                          clear H113; intro a114 H114
                          refine hgo 8 rfl (by kernel_rfl) ?_
                          refine st_store1N rfl z_size40 rfl rfl rfl (by repeat (first | exact Uh | apply Ut)) q_len_c4 q_set_c4_3 (by decide) rfl rfl H114 ?_
                          clear H114; intro wx115 H115
                          refine hfin (H115.sep.sub (by first | exact S0 | exact S1 | repeat (first | exact S1 | exact S0 | apply S2 | apply S3))) ?_
                          refine hdone (by kernel_rfl) ?_
                          refine inb_n ?_
                          refine inb_n ?_
                          refine then_n ?_
                          refine reg ?_
                          refine plain (y_add rfl rfl rfl (by first | exact w64 (by omega) (by omega) | rfl)) rfl rfl rfl H115 ?_
                          clear H115; intro a116 H116
                          refine plain (y_move rfl rfl) rfl rfl rfl H116 ?_
                          clear H116; intro a117 H117
                          refine fin ?_
                          refine then_n ?_
                          refine ⟨(k + 1, okv, ps ++ [⟨false, ((L.drop 3).getD k []).drop 1⟩], (.slice Ar113 _ cr113)), by dsimp only; omega, ⟨by dsimp only; omega, (by dsimp only; rw [List.length_append, List.length_singleton]; omega), ?_, ?_⟩, (H117.drop (by first | exact S0 | exact S1 | repeat (first | exact S1 | exact S0 | apply S2 | apply S3))).weak ⟨rfl, rfl, rfl, rfl, rfl, fi rfl (by dsimp only; omega), trivial⟩ (ir2 (by simp) (by rw [Note.pc_append, Note.pc_one]; rfl) rfl)⟩
                          · intro _
                            exact ⟨(hokt (by assumption)).1, Note.parts_step (by omega) (hokt (by assumption)).2 (Note.part_text (by assumption) (by assumption) (by assumption) (by omega))⟩
                          · intro h
                            exact hokf h
                      · skip
                        try simp only [decide_eq_true_eq, decide_eq_false_iff_not, Bool.not_eq_true', Bool.not_eq_false', Bool.and_eq_true, Bool.not_eq_true, Bool.not_eq_false] at hc98
                        refine reg ?_
                        refine plain (y_assign rfl rfl) rfl rfl rfl H97 ?_
                        clear H97; intro a118 H118
                        refine fin ?_
                        refine inb_n ?_
                        refine inb_n ?_
                        refine then_n ?_
                        refine reg ?_
                        refine plain (y_add rfl rfl rfl (by first | exact w64 (by omega) (by omega) | rfl)) rfl rfl rfl H118 ?_
                        clear H118; intro a119 H119
                        refine plain (y_move rfl rfl) rfl rfl rfl H119 ?_
                        clear H119; intro a120 H120
                        refine fin ?_
                        refine then_n ?_
                        refine ⟨(k + 1, false, ps, (.slice Av _ cv)), by dsimp only; omega, ⟨by dsimp only; omega, (by dsimp only; omega), ?_, ?_⟩, (H120.drop (by first | exact S0 | exact S1 | repeat (first | exact S1 | exact S0 | apply S2 | apply S3))).weak ⟨rfl, rfl, rfl, rfl, rfl, fi rfl (by dsimp only; omega), trivial⟩ rfl⟩
                        · intro h
                          cases h
                        · intro _
                          exact Note.readBatch_at hfs (k := k) (by omega) (Note.part_none (by assumption) (.inr (by first | exact .inl (by assumption) | exact .inr (by omega))))
                  · first
                    | fail
                    | skip
                      clear H89; intro H121
                      try simp only [decide_eq_true_eq, decide_eq_false_iff_not, Bool.not_eq_true', Bool.not_eq_false', Bool.and_eq_true, Bool.not_eq_true, Bool.not_eq_false] at hg90
                      refine skip rfl rfl rfl H121 ?_
                      clear H121; intro a122 H122
                      refine skip rfl rfl rfl H122 ?_
                      clear H122; intro a123 H123
                      refine skip rfl rfl rfl H123 ?_
                      clear H123; intro a124 H124
                      refine skip rfl rfl rfl H124 ?_
                      clear H124; intro a125 H125
                      refine plain (y_pick_f rfl rfl rfl) rfl rfl rfl H125 ?_
                      clear H125; intro a126 H126
                      refine plain (y_assign rfl rfl) rfl rfl rfl H126 ?_
                      clear H126; intro a127 H127
                      refine fin ?_
                      refine then_n ?_
                      refine cnd_f H127 rfl ?_
                      refine reg ?_
                      refine plain (y_assign rfl rfl) rfl rfl rfl H127 ?_
                      clear H127; intro a129 H129
                      refine fin ?_
                      refine inb_n ?_
                      refine inb_n ?_
                      refine then_n ?_
                      refine reg ?_
                      refine plain (y_add rfl rfl rfl (by first | exact w64 (by omega) (by omega) | rfl)) rfl rfl rfl H129 ?_
                      clear H129; intro a130 H130
                      refine plain (y_move rfl rfl) rfl rfl rfl H130 ?_
                      clear H130; intro a131 H131
                      refine fin ?_
                      refine then_n ?_
                      refine ⟨(k + 1, false, ps, (.slice Av _ cv)), by dsimp only; omega, ⟨by dsimp only; omega, (by dsimp only; omega), ?_, ?_⟩, (H131.drop (by first | exact S0 | exact S1 | repeat (first | exact S1 | exact S0 | apply S2 | apply S3))).weak ⟨rfl, rfl, rfl, rfl, rfl, fi rfl (by dsimp only; omega), trivial⟩ rfl⟩
                      · intro h
                        cases h
                      · intro _
                        exact Note.readBatch_at hfs (k := k) (by omega) (Note.part_none (by assumption) (.inr (by first | exact .inl (by assumption) | exact .inr (by omega))))
        · skip
          try simp only [decide_eq_true_eq, decide_eq_false_iff_not, Bool.not_eq_true', Bool.not_eq_false', Bool.and_eq_true, Bool.not_eq_true, Bool.not_eq_false] at hc39
          refine wp_exit ?_
          refine then_x ?_
          refine then_x ?_
          refine inb_hit ?_
          refine then_n ?_
          refine wp_seq ?_
          refine wp_seq ?_
          refine reg ?_
          refine plain (y_move rfl rfl) rfl rfl rfl H38 ?_
          clear H38; intro a132 H132
          refine plain ((by first | exact y_not_d rfl rfl | exact y_not rfl rfl)) rfl rfl rfl H132 ?_
          clear H132; intro a133 H133
          refine fin ?_
          refine then_n ?_
          refine cnd H133 rfl (fun hc134 => ?_) (fun hc134 => ?_) -- cond 9
          · skip
            try simp only [decide_eq_true_eq, decide_eq_false_iff_not, Bool.not_eq_true', Bool.not_eq_false', Bool.and_eq_true, Bool.not_eq_true, Bool.not_eq_false] at hc134
            refine wp_seq ?_
            refine reg ?_
            refine plain (y_build rfl z_zeroN42 z_places42 rfl lay_n) rfl rfl rfl H133 ?_
            clear H133; intro a135 H135
            refine st_storeN rfl z_size42 rfl rfl (agg_cells _) (by repeat (first | exact Uh | apply Ut)) (q_one_c4 rfl rfl rfl rfl) q_len_c4 q_len_c4 q_spl_c4_0_c4 (by decide) rfl rfl H135 ?_
            clear H135; intro wx136 H136
            refine plain (y_assign rfl rfl) rfl rfl rfl H136 ?_
            clear H136; intro a137 H137
            refine fin ?_
            refine then_n ?_
            refine wp_ret ?_
            refine then_r ?_
            refine ng_r ?_
            -- return 3
            refine retct rfl H137 rfl z_agg42 z_size42 (by repeat (first | exact Mh | apply Mt)) q_len_c4 rfl ?_
            first | (rw [Note.readBatch_none hfs]; exact ⟨_, _, rfl, ⟨none, 0, rfl, rfl⟩, (H137.sep.sub (List.nil_sublist _)).addNil 75 2⟩) | (rw [hokf (by assumption)]; exact ⟨_, _, rfl, ⟨none, 0, rfl, rfl⟩, (H137.sep.sub (List.nil_sublist _)).addNil 75 2⟩) | (rw [Note.readBatch_at hfs (k := k) (by omega) (by rw [show (L.drop 3).getD k [] = [] by assumption]; exact Note.part_none Note.nil2 (.inl rfl))]; exact ⟨_, _, rfl, ⟨none, 0, rfl, rfl⟩, (H137.sep.sub (List.nil_sublist _)).addNil 75 2⟩) | (obtain ⟨hG_, hps⟩ := hokt (by assumption); rw [Note.readBatch_ok hfs hG_.1 hG_.2 (k := k) (by omega) hps]; exact ⟨_, _, rfl, ⟨_, _, rfl, rfl⟩, H137.sep.sub (by first | exact S0 | exact S1 | repeat (first | exact S1 | exact S0 | apply S2 | apply S3))⟩)
          · skip
            try simp only [decide_eq_true_eq, decide_eq_false_iff_not, Bool.not_eq_true', Bool.not_eq_false', Bool.and_eq_true, Bool.not_eq_true, Bool.not_eq_false] at hc134
            refine wp_skip ?_
            refine then_n ?_
            refine wp_seq ?_
            refine reg ?_
            refine plain (y_loadAB rfl z_agg42 z_size42 rfl (by repeat (first | exact Mh | apply Mt)) q_ld_c4_0_4 q_len_c4) rfl rfl rfl H133 ?_
            clear H133; intro a138 H138
            refine st_storeN rfl z_size42 rfl rfl (agg_cells _) (by repeat (first | exact Uh | apply Ut)) (q_one_c4 rfl rfl rfl rfl) q_len_c4 q_len_c4 q_spl_c4_0_c4 (by decide) rfl rfl H138 ?_
            clear H138; intro wx139 H139
            refine plain (y_assign rfl rfl) rfl rfl rfl H139 ?_
            clear H139; intro a140 H140
            refine fin ?_
            refine then_n ?_
            refine wp_ret ?_
            refine ng_r ?_
            -- return 4
            refine retct rfl H140 rfl z_agg42 z_size42 (by repeat (first | exact Mh | apply Mt)) q_len_c4 rfl ?_
            first | (rw [Note.readBatch_none hfs]; exact ⟨_, _, rfl, ⟨none, 0, rfl, rfl⟩, (H140.sep.sub (List.nil_sublist _)).addNil 75 2⟩) | (rw [hokf (by assumption)]; exact ⟨_, _, rfl, ⟨none, 0, rfl, rfl⟩, (H140.sep.sub (List.nil_sublist _)).addNil 75 2⟩) | (rw [Note.readBatch_at hfs (k := k) (by omega) (by rw [show (L.drop 3).getD k [] = [] by assumption]; exact Note.part_none Note.nil2 (.inl rfl))]; exact ⟨_, _, rfl, ⟨none, 0, rfl, rfl⟩, (H140.sep.sub (List.nil_sublist _)).addNil 75 2⟩) | (obtain ⟨hG_, hps⟩ := hokt (by assumption); rw [Note.readBatch_ok hfs hG_.1 hG_.2 (k := k) (by omega) hps]; exact ⟨_, _, rfl, ⟨_, _, rfl, rfl⟩, H140.sep.sub (by first | exact S0 | exact S1 | repeat (first | exact S1 | exact S0 | apply S2 | apply S3))⟩)
    · first
      | fail
      | skip
        clear H26; intro H141
        try simp only [decide_eq_true_eq, decide_eq_false_iff_not, Bool.not_eq_true', Bool.not_eq_false', Bool.and_eq_true, Bool.not_eq_true, Bool.not_eq_false] at hg27
        have hnn := hg27
        refine skip rfl rfl rfl H141 ?_
        clear H141; intro a142 H142
        refine skip rfl rfl rfl H142 ?_
        clear H142; intro a143 H143
        refine skip rfl rfl rfl H143 ?_
        clear H143; intro a144 H144
        refine plain (y_pick_f rfl rfl rfl) rfl rfl rfl H144 ?_
        clear H144; intro a145 H145
        refine plain (y_assign rfl rfl) rfl rfl rfl H145 ?_
        clear H145; intro a146 H146
        refine fin ?_
        refine then_n ?_
        refine wp_seq ?_
        refine wp_label ?_
        refine then_n ?_
        refine wp_seq ?_
        refine wp_seq ?_
        refine reg ?_
        refine plain (y_move rfl rfl) rfl rfl rfl H146 ?_
        clear H146; intro a147 H147
        refine plain (y_len rfl Tryd.underlying49 rfl) rfl rfl rfl H147 ?_
        clear H147; intro a148 H148
        refine plain (y_move rfl rfl) rfl rfl rfl H148 ?_
        clear H148; intro a149 H149
        refine fin ?_
        refine then_n ?_
        refine wp_block ?_
        replace H149 := H149.nilRow 75 2
        refine loop (ι := Nat × Bool × List Note.Part × Value) (fun x => [(2, .pointer (some ⟨b1, 0, none⟩)), (4, .pointer (some ⟨b3, 0, none⟩)), (6, .bool x.2.1), (34, .slice (if c' = 3 then A' else A'.map (·.add (3 * 1))) (L.length - 3) (c' - 3)), (35, .int .i64 ((L.length - 3 : Nat) : Int)), (36, .int .i64 (x.1 : Int))]) (fun x => [It.row 75 2 x.2.2.2 x.2.2.1.length (Note.pc x.2.2.1), It.row 9 1 (.slice A' L.length c') L.length (L.map str), It.blk b3 42 [i64 n0, i64 n1, i64 n2, x.2.2.2], It.blk b1 42 [i64 0, i64 0, i64 0, .slice none 0 0]]) (fun x => x.1 ≤ L.length - 3 ∧ x.2.2.1.length ≤ x.1 ∧ (x.2.1 = true → (Note.nums [n0, n1, n2] = true ∧ (L.drop 3).length ≤ 512) ∧ Note.parts ((L.drop 3).take x.1) = some x.2.2.1) ∧ (x.2.1 = false → Note.readBatch s = (Note.Batch.zero, 6))) (fun x => L.length - 3 - x.1) ((0, false, [], .slice none 0 0)) ⟨Nat.zero_le _, Nat.zero_le _, (fun h => by cases h), fun _ => Note.readBatch_bad hfs (by intro h; rw [h.1] at hnn; cases hnn)⟩ ((H149.drop (by first | exact S0 | exact S1 | repeat (first | exact S1 | exact S0 | apply S2 | apply S3))).weak ⟨rfl, rfl, rfl, rfl, rfl, rfl, trivial⟩ (ir2 rfl rfl rfl)) ?_
        clear H149; intro x a150 wx150 hok150 H150
        obtain ⟨k, okv, ps, v⟩ := x
        dsimp only at hok150 H150
        obtain ⟨hk3, hpsl, hokt, hokf⟩ := hok150
        have hlt : (L.drop 3).length = L.length - 3 := List.length_drop
        obtain ⟨Av, cv, hv, hRv, hmv⟩ := row_shape (v := v) H150.sep (by repeat (first | exact Mh | apply Mt))
        subst hv
        refine wp_seq ?_
        refine reg ?_
        refine plain (y_lss rfl rfl rfl) rfl rfl rfl H150 ?_
        clear H150; intro a151 H151
        refine fin ?_
        refine then_n ?_
        refine wp_seq ?_
        refine cnd H151 rfl (fun hc152 => ?_) (fun hc152 => ?_) -- cond 10
        · skip
          try simp only [decide_eq_true_eq, decide_eq_false_iff_not, Bool.not_eq_true', Bool.not_eq_false', Bool.and_eq_true, Bool.not_eq_true, Bool.not_eq_false] at hc152
          refine wp_skip ?_
          refine then_n ?_
          refine wp_seq ?_
          refine wp_block ?_
          refine wp_seq ?_
          refine reg ?_
          refine plain (y_ixR rfl Tryd.underlying49 z_size9 rfl rfl (by omega) (by omega) (fun w hs => (rd_row (by repeat (first | exact Mh | apply Mt)) w hs).drop 3 (c' = 3) (fun h => by rw [List.length_map]; omega)) (by rw [List.length_drop, List.length_map]; omega)) rfl rfl rfl H151 ?_
          clear H151; intro a153 H153
          refine plain (y_loadR rfl z_agg9 rfl (fun w hs => (rd_row (by repeat (first | exact Mh | apply Mt)) w hs).drop 3 (c' = 3) (fun h => by rw [List.length_map]; omega)) (show _ = some (str ((L.drop 3).getD k [])) by rw [show (k : Int).toNat * 1 = k by omega]; exact Note.rest_get 3 k (by omega))) rfl rfl rfl H153 ?_
          clear H153; intro a154 H154
          refine plain (y_assign rfl rfl) rfl rfl rfl H154 ?_
          clear H154; intro a155 H155
          refine fin ?_
          refine then_n ?_
          refine wp_block ?_
          refine wp_seq ?_
          refine reg ?_
          refine plain (y_move rfl rfl) rfl rfl rfl H155 ?_
          clear H155; intro a156 H156
          refine plain ((by first | exact y_not_d rfl rfl | exact y_not rfl rfl)) rfl rfl rfl H156 ?_
          clear H156; intro a157 H157
          refine plain (y_move rfl rfl) rfl rfl rfl H157 ?_
          clear H157; intro a158 H158
          refine Sx.part (d := 43) H158 rfl (fun hg159 => ?_) (fun hg159 => ?_)
          · first
            | fail
            | skip
              clear H158; intro H160
              try simp only [decide_eq_true_eq, decide_eq_false_iff_not, Bool.not_eq_true', Bool.not_eq_false', Bool.and_eq_true, Bool.not_eq_true, Bool.not_eq_false] at hg159
              refine skip rfl rfl rfl H160 ?_
              clear H160; intro a161 H161
              refine skip rfl rfl rfl H161 ?_
              clear H161; intro a162 H162
              refine plain (y_pick_t rfl rfl rfl) rfl rfl rfl H162 ?_
              clear H162; intro a163 H163
              refine plain (y_assign rfl rfl) rfl rfl rfl H163 ?_
              clear H163; intro a164 H164
              refine fin ?_
              refine then_n ?_
              refine cnd_t H164 rfl ?_
              refine wp_seq ?_
              refine reg ?_
              refine plain (y_assign rfl rfl) rfl rfl rfl H164 ?_
              clear H164; intro a166 H166
              refine fin ?_
              refine then_n ?_
              refine wp_exit ?_
              refine inb_miss rfl ?_
              refine inb_miss rfl ?_
              refine then_x ?_
              refine then_x ?_
              refine inb_hit ?_
              refine then_n ?_
              refine wp_seq ?_
              refine wp_seq ?_
              refine reg ?_
              refine plain (y_move rfl rfl) rfl rfl rfl H166 ?_
              clear H166; intro a167 H167
              refine plain (y_not rfl rfl) rfl rfl rfl H167 ?_
              clear H167; intro a168 H168
              refine fin ?_
              refine then_n ?_
              refine cnd_t H168 rfl ?_
              refine wp_seq ?_
              refine reg ?_
              refine plain (y_build rfl z_zeroN42 z_places42 rfl lay_n) rfl rfl rfl H168 ?_
              clear H168; intro a170 H170
              refine st_storeN rfl z_size42 rfl rfl (agg_cells _) (by repeat (first | exact Uh | apply Ut)) (q_one_c4 rfl rfl rfl rfl) q_len_c4 q_len_c4 q_spl_c4_0_c4 (by decide) rfl rfl H170 ?_
              clear H170; intro wx171 H171
              refine plain (y_assign rfl rfl) rfl rfl rfl H171 ?_
              clear H171; intro a172 H172
              refine fin ?_
              refine then_n ?_
              refine wp_ret ?_
              refine then_r ?_
              refine ng_r ?_
              -- return 5
              refine retct rfl H172 rfl z_agg42 z_size42 (by repeat (first | exact Mh | apply Mt)) q_len_c4 rfl ?_
              first | (rw [Note.readBatch_none hfs]; exact ⟨_, _, rfl, ⟨none, 0, rfl, rfl⟩, (H172.sep.sub (List.nil_sublist _)).addNil 75 2⟩) | (rw [hokf (by assumption)]; exact ⟨_, _, rfl, ⟨none, 0, rfl, rfl⟩, (H172.sep.sub (List.nil_sublist _)).addNil 75 2⟩) | (rw [Note.readBatch_at hfs (k := k) (by omega) (by rw [show (L.drop 3).getD k [] = [] by assumption]; exact Note.part_none Note.nil2 (.inl rfl))]; exact ⟨_, _, rfl, ⟨none, 0, rfl, rfl⟩, (H172.sep.sub (List.nil_sublist _)).addNil 75 2⟩) | (obtain ⟨hG_, hps⟩ := hokt (by assumption); rw [Note.readBatch_ok hfs hG_.1 hG_.2 (k := k) (by omega) hps]; exact ⟨_, _, rfl, ⟨_, _, rfl, rfl⟩, H172.sep.sub (by first | exact S0 | exact S1 | repeat (first | exact S1 | exact S0 | apply S2 | apply S3))⟩)
          · first
            | fail
            | skip
              clear H158; intro H173
              try simp only [decide_eq_true_eq, decide_eq_false_iff_not, Bool.not_eq_true', Bool.not_eq_false', Bool.and_eq_true, Bool.not_eq_true, Bool.not_eq_false] at hg159
              refine plain (y_move rfl rfl) rfl rfl rfl H173 ?_
              clear H173; intro a174 H174
              refine plain (y_seql rfl rfl rfl) rfl rfl rfl H174 ?_
              clear H174; intro a175 H175
              refine plain (y_pick_f rfl rfl rfl) rfl rfl rfl H175 ?_
              clear H175; intro a176 H176
              refine plain (y_assign rfl rfl) rfl rfl rfl H176 ?_
              clear H176; intro a177 H177
              refine fin ?_
              refine then_n ?_
              refine cnd H177 rfl (fun hc178 => ?_) (fun hc178 => ?_) -- cond 13
              · skip
                try simp only [decide_eq_true_eq, decide_eq_false_iff_not, Bool.not_eq_true', Bool.not_eq_false', Bool.and_eq_true, Bool.not_eq_true, Bool.not_eq_false] at hc178
                refine wp_seq ?_
                refine reg ?_
                refine plain (y_assign rfl rfl) rfl rfl rfl H177 ?_
                clear H177; intro a179 H179
                refine fin ?_
                refine then_n ?_
                refine wp_exit ?_
                refine inb_miss rfl ?_
                refine inb_miss rfl ?_
                refine then_x ?_
                refine then_x ?_
                refine inb_hit ?_
                refine then_n ?_
                refine wp_seq ?_
                refine wp_seq ?_
                refine reg ?_
                refine plain (y_move rfl rfl) rfl rfl rfl H179 ?_
                clear H179; intro a180 H180
                refine plain (y_not rfl rfl) rfl rfl rfl H180 ?_
                clear H180; intro a181 H181
                refine fin ?_
                refine then_n ?_
                refine cnd_t H181 rfl ?_
                refine wp_seq ?_
                refine reg ?_
                refine plain (y_build rfl z_zeroN42 z_places42 rfl lay_n) rfl rfl rfl H181 ?_
                clear H181; intro a183 H183
                refine st_storeN rfl z_size42 rfl rfl (agg_cells _) (by repeat (first | exact Uh | apply Ut)) (q_one_c4 rfl rfl rfl rfl) q_len_c4 q_len_c4 q_spl_c4_0_c4 (by decide) rfl rfl H183 ?_
                clear H183; intro wx184 H184
                refine plain (y_assign rfl rfl) rfl rfl rfl H184 ?_
                clear H184; intro a185 H185
                refine fin ?_
                refine then_n ?_
                refine wp_ret ?_
                refine then_r ?_
                refine ng_r ?_
                -- return 6
                refine retct rfl H185 rfl z_agg42 z_size42 (by repeat (first | exact Mh | apply Mt)) q_len_c4 rfl ?_
                first | (rw [Note.readBatch_none hfs]; exact ⟨_, _, rfl, ⟨none, 0, rfl, rfl⟩, (H185.sep.sub (List.nil_sublist _)).addNil 75 2⟩) | (rw [hokf (by assumption)]; exact ⟨_, _, rfl, ⟨none, 0, rfl, rfl⟩, (H185.sep.sub (List.nil_sublist _)).addNil 75 2⟩) | (rw [Note.readBatch_at hfs (k := k) (by omega) (by rw [show (L.drop 3).getD k [] = [] by assumption]; exact Note.part_none Note.nil2 (.inl rfl))]; exact ⟨_, _, rfl, ⟨none, 0, rfl, rfl⟩, (H185.sep.sub (List.nil_sublist _)).addNil 75 2⟩) | (obtain ⟨hG_, hps⟩ := hokt (by assumption); rw [Note.readBatch_ok hfs hG_.1 hG_.2 (k := k) (by omega) hps]; exact ⟨_, _, rfl, ⟨_, _, rfl, rfl⟩, H185.sep.sub (by first | exact S0 | exact S1 | repeat (first | exact S1 | exact S0 | apply S2 | apply S3))⟩)
              · skip
                try simp only [decide_eq_true_eq, decide_eq_false_iff_not, Bool.not_eq_true', Bool.not_eq_false', Bool.and_eq_true, Bool.not_eq_true, Bool.not_eq_false] at hc178
                refine wp_seq ?_
                refine reg ?_
                refine plain (y_move rfl rfl) rfl rfl rfl H177 ?_
                clear H177; intro a186 H186
                refine plain (y_seql rfl rfl rfl) rfl rfl rfl H186 ?_
                clear H186; intro a187 H187
                refine plain (y_assign rfl rfl) rfl rfl rfl H187 ?_
                clear H187; intro a188 H188
                refine fin ?_
                refine then_n ?_
                refine cnd H188 rfl (fun hc189 => ?_) (fun hc189 => ?_) -- cond 15
                · skip
                  try simp only [decide_eq_true_eq, decide_eq_false_iff_not, Bool.not_eq_true', Bool.not_eq_false', Bool.and_eq_true, Bool.not_eq_true, Bool.not_eq_false] at hc189
                  refine reg ?_
                  refine plain (y_fieldB rfl z_field42_3 rfl (by first | (simp only [Nat.zero_add, Nat.add_zero, Nat.reduceAdd]; rfl) | rfl)) rfl rfl rfl H188 ?_
                  clear H188; intro a190 H190
                  refine plain (y_loadB rfl z_agg40 rfl (by repeat (first | exact Mh | apply Mt)) q_ix_c4_3) rfl rfl rfl H190 ?_
                  clear H190; intro a191 H191
                  refine plain (y_build rfl z_zeroN75 z_places75 rfl (lay_1 (off := 0) (n := 2) rfl q_len_c2 (by decide) q_spl_c2_0_c1 lay_n (by rfl))) rfl rfl rfl H191 ?_
                  clear H191; intro a192 H192
                  refine st_buildSlice rfl Tryd.underlying40 z_size75 z_zero75 rfl rfl rfl (lay_agg (agg_cells _) rfl (by simp)) rfl rfl rfl H192 ?_
                  clear H192; intro b193 a193 wx193 H193
                  refine st_append rfl z_slice40 z_notint40 rfl rfl (fun _ => (by repeat (first | exact Uh | apply Ut))) (fun w hs => Src.slice ((rd_blkA (by repeat (first | exact Mh | apply Mt))) w hs) rfl (by simp [Value.oneCell'])) (by unfold maxLen at *; first | omega | (simp only [List.length_cons, List.length_nil, List.length_append, List.length_map]; omega)) (by omega) rfl rfl rfl H193 ?_
                  clear H193; intro v194 a194 wx194 hnil194 H194
                  obtain ⟨Ar194, cr194, hvr194, hRr194, hmr194⟩ := row_shape (v := v194) H194.sep (by repeat (first | exact Mh | apply Mt))
                  subst hvr194
                  refine plain (y_fieldB rfl z_field42_3 rfl (by first | (simp only [Nat.zero_add, Nat.add_zero, Nat.reduceAdd]; rfl) | rfl)) rfl rfl rfl H194 ?_
                  clear H194; intro a195 H195
                  refine st_store1N rfl z_size40 rfl rfl rfl (by repeat (first | exact Uh | apply Ut)) q_len_c4 q_set_c4_3 (by decide) rfl rfl H195 ?_
                  clear H195; intro wx196 H196
                  refine fin ?_
                  refine inb_n ?_
                  refine inb_n ?_
                  refine then_n ?_
                  refine reg ?_
                  refine plain (y_add rfl rfl rfl (by first | exact w64 (by omega) (by omega) | rfl)) rfl rfl rfl H196 ?_
                  clear H196; intro a197 H197
                  refine plain (y_move rfl rfl) rfl rfl rfl H197 ?_
                  clear H197; intro a198 H198
                  refine fin ?_
                  refine then_n ?_
                  refine ⟨(k + 1, okv, ps ++ [⟨true, []⟩], (.slice Ar194 _ cr194)), by dsimp only; omega, ⟨by dsimp only; omega, (by dsimp only; rw [List.length_append, List.length_singleton]; omega), ?_, ?_⟩, (H198.drop (by first | exact S0 | exact S1 | repeat (first | exact S1 | exact S0 | apply S2 | apply S3))).weak ⟨rfl, rfl, rfl, rfl, rfl, fi rfl (by dsimp only; omega), trivial⟩ (ir2 (by simp) (by rw [Note.pc_append, Note.pc_one]; rfl) rfl)⟩
                  · intro _
                    exact ⟨(hokt (by assumption)).1, Note.parts_step (by omega) (hokt (by assumption)).2 (show Note.part ((L.drop 3).getD k []) = some ⟨true, []⟩ by rw [show ((L.drop 3).getD k []) = [2] by assumption]; rfl)⟩
                  · intro h
                    exact hokf h
                · skip
                  try simp only [decide_eq_true_eq, decide_eq_false_iff_not, Bool.not_eq_true', Bool.not_eq_false', Bool.and_eq_true, Bool.not_eq_true, Bool.not_eq_false] at hc189
                  refine wp_seq ?_
                  refine reg ?_
                  refine plain (y_move rfl rfl) rfl rfl rfl H188 ?_
                  clear H188; intro a199 H199
                  have htl : ((L.drop 3).getD k []).length ≤ 65536 := hLb _ (by rw [Oct.getD_eq [] (by omega)]; exact List.mem_of_mem_drop (List.getElem_mem _))
                  have hne : 0 < ((L.drop 3).getD k []).length := List.length_pos_iff.2 (by assumption)
                  refine plain (y_sidx rfl Tryd.underlying9 rfl rfl (by omega) (by omega)) rfl rfl rfl H199 ?_
                  clear H199; intro a200 H200
                  refine plain (y_eql rfl rfl rfl) rfl rfl rfl H200 ?_
                  clear H200; intro a201 H201
                  refine plain (y_move rfl rfl) rfl rfl rfl H201 ?_
                  clear H201; intro a202 H202
                  refine Sx.part (d := 60) H202 rfl (fun hg203 => ?_) (fun hg203 => ?_)
                  · first
                    | fail
                    | skip
                      clear H202; intro H204
                      try simp only [decide_eq_true_eq, decide_eq_false_iff_not, Bool.not_eq_true', Bool.not_eq_false', Bool.and_eq_true, Bool.not_eq_true, Bool.not_eq_false] at hg203
                      refine plain (y_move rfl rfl) rfl rfl rfl H204 ?_
                      clear H204; intro a205 H205
                      refine plain (y_slen rfl Tryd.underlying9 rfl) rfl rfl rfl H205 ?_
                      clear H205; intro a206 H206
                      refine plain (y_sub rfl rfl rfl (by first | exact w64 (by omega) (by omega) | rfl)) rfl rfl rfl H206 ?_
                      clear H206; intro a207 H207
                      refine plain (y_leq rfl rfl rfl) rfl rfl rfl H207 ?_
                      clear H207; intro a208 H208
                      refine plain (y_pick_t rfl rfl rfl) rfl rfl rfl H208 ?_
                      clear H208; intro a209 H209
                      refine plain (y_assign rfl rfl) rfl rfl rfl H209 ?_
                      clear H209; intro a210 H210
                      refine fin ?_
                      refine then_n ?_
                      refine cnd H210 rfl (fun hc211 => ?_) (fun hc211 => ?_) -- cond 16
                      · skip
                        try simp only [decide_eq_true_eq, decide_eq_false_iff_not, Bool.not_eq_true', Bool.not_eq_false', Bool.and_eq_true, Bool.not_eq_true, Bool.not_eq_false] at hc211
                        refine hreg [] (fun _ h => (h.sub (by first | exact S0 | exact S1 | repeat (first | exact S1 | exact S0 | apply S2 | apply S3)))) (by kernel_rfl) H210 ?_
                        clear H210; intro wx212 H212
                        refine htake 0 rfl (by kernel_rfl) (y_fieldB rfl z_field42_3 rfl (by first | (simp only [Nat.zero_add, Nat.add_zero, Nat.reduceAdd]; rfl) | rfl)) rfl rfl rfl (fun _ h => (h.sub (by first | exact S0 | exact S1 | repeat (first | exact S1 | exact S0 | apply S2 | apply S3)))) H212 ?_
                        clear H212; intro a213 H213
                        refine htake 2 rfl (by kernel_rfl) (y_move rfl rfl) rfl rfl rfl (fun _ h => (h.sub (by first | exact S0 | exact S1 | repeat (first | exact S1 | exact S0 | apply S2 | apply S3)))) H213 ?_
                        clear H213; intro a214 H214
                        refine htake 3 rfl (by kernel_rfl) (y_sslice_lo rfl Tryd.underlying9 rfl rfl (by omega) (by omega)) rfl rfl rfl (fun _ h => (h.sub (by first | exact S0 | exact S1 | repeat (first | exact S1 | exact S0 | apply S2 | apply S3)))) H214 ?_
                        clear H214; intro a215 H215
                        refine htake 4 rfl (by kernel_rfl) (y_build rfl z_zeroN75 z_places75 rfl (lay_1 (off := 1) (n := 2) rfl q_len_c2 (by decide) q_spl_c2_1_c1 lay_n (by rfl))) rfl rfl rfl (fun _ h => (h.sub (by first | exact S0 | exact S1 | repeat (first | exact S1 | exact S0 | apply S2 | apply S3)))) H215 ?_
                        clear H215; intro a216 H216
                        refine hgo2 1 5 rfl rfl (by kernel_rfl) ?_ ?_
                        · skip
                          refine plain (y_loadB rfl z_agg40 rfl (by repeat (first | exact Mh | apply Mt)) q_ix_c4_3) rfl rfl rfl H216 ?_
                          clear H216; intro a217 H217
                          refine hfin (H217.sep.sub (by first | exact S0 | exact S1 | repeat (first | exact S1 | exact S0 | apply S2 | apply S3))) ?_
                          refine hgo 5 rfl (by kernel_rfl) ?_
                          refine st_buildSlice rfl Tryd.underlying40 z_size75 z_zero75 rfl rfl rfl (lay_agg (agg_cells _) rfl (by simp)) rfl rfl rfl H217 ?_
                          clear H217; intro b218 a218 wx218 H218
                          refine hfin (H218.sep.sub (by first | exact S0 | exact S1 | repeat (first | exact S1 | exact S0 | apply S2 | apply S3))) ?_
                          refine hgo 6 rfl (by kernel_rfl) ?_
                          refine st_append rfl z_slice40 z_notint40 rfl rfl (fun _ => (by repeat (first | exact Uh | apply Ut))) (fun w hs => Src.slice ((rd_blkA (by repeat (first | exact Mh | apply Mt))) w hs) rfl (by simp [Value.oneCell'])) (by unfold maxLen at *; first | omega | (simp only [List.length_cons, List.length_nil, List.length_append, List.length_map]; omega)) (by omega) rfl rfl rfl H218 ?_
                          clear H218; intro v219 a219 wx219 hnil219 H219
                          obtain ⟨Ar219, cr219, hvr219, hRr219, hmr219⟩ := row_shape (v := v219) H219.sep (by repeat (first | exact Mh | apply Mt))
                          subst hvr219
                          refine hfin (H219.sep.sub (by first | exact S0 | exact S1 | repeat (first | exact S1 | exact S0 | apply S2 | apply S3))) ?_
                          refine htake 7 rfl (by kernel_rfl) (y_fieldB rfl z_field42_3 rfl (by first | (simp only [Nat.zero_add, Nat.add_zero, Nat.reduceAdd]; rfl) | rfl)) rfl rfl rfl (fun _ h => (h.sub (by first | exact S0 | exact S1 | repeat (first | exact S1 | exact S0 | apply S2 | apply S3)))) H219 ?_
                          clear H219; intro a220 H220
                          refine hgo 8 rfl (by kernel_rfl) ?_
                          refine st_store1N rfl z_size40 rfl rfl rfl (by repeat (first | exact Uh | apply Ut)) q_len_c4 q_set_c4_3 (by decide) rfl rfl H220 ?_
                          clear H220; intro wx221 H221
                          refine hfin (H221.sep.sub (by first | exact S0 | exact S1 | repeat (first | exact S1 | exact S0 | apply S2 | apply S3))) ?_
                          refine hdone (by kernel_rfl) ?_
                          refine inb_n ?_
                          refine inb_n ?_
                          refine then_n ?_
                          refine reg ?_
                          refine plain (y_add rfl rfl rfl (by first | exact w64 (by omega) (by omega) | rfl)) rfl rfl rfl H221 ?_
                          clear H221; intro a222 H222
                          refine plain (y_move rfl rfl) rfl rfl rfl H222 ?_
                          clear H222; intro a223 H223
                          refine fin ?_
                          refine then_n ?_
                          refine ⟨(k + 1, okv, ps ++ [⟨false, ((L.drop 3).getD k []).drop 1⟩], (.slice Ar219 _ cr219)), by dsimp only; omega, ⟨by dsimp only; omega, (by dsimp only; rw [List.length_append, List.length_singleton]; omega), ?_, ?_⟩, (H223.drop (by first | exact S0 | exact S1 | repeat (first | exact S1 | exact S0 | apply S2 | apply S3))).weak ⟨rfl, rfl, rfl, rfl, rfl, fi rfl (by dsimp only; omega), trivial⟩ (ir2 (by simp) (by rw [Note.pc_append, Note.pc_one]; rfl) rfl)⟩
                          · intro _
                            exact ⟨(hokt (by assumption)).1, Note.parts_step (by omega) (hokt (by assumption)).2 (Note.part_text (by assumption) (by assumption) (by assumption) (by omega))⟩
                          · intro h
                            exact hokf h
                        · skip
                          refine st_buildSlice rfl Tryd.underlying40 z_size75 z_zero75 rfl rfl rfl (lay_agg (agg_cells _) rfl (by simp)) rfl rfl rfl H216 ?_
                          clear H216; intro b224 a224 wx224 H224
                          refine hfin (H224.sep.sub (by first | exact S0 | exact S1 | repeat (first | exact S1 | exact S0 | apply S2 | apply S3))) ?_
                          refine hgo 1 rfl (by kernel_rfl) ?_
                          refine plain (y_loadB rfl z_agg40 rfl (by repeat (first | exact Mh | apply Mt)) q_ix_c4_3) rfl rfl rfl H224 ?_
                          clear H224; intro a225 H225
                          refine hfin (H225.sep.sub (by first | exact S0 | exact S1 | repeat (first | exact S1 | exact S0 | apply S2 | apply S3))) ?_
                          refine hgo 6 rfl (by kernel_rfl) ?_
                          refine st_append rfl z_slice40 z_notint40 rfl rfl (fun _ => (by repeat (first | exact Uh | apply Ut))) (fun w hs => Src.slice ((rd_blkA (by repeat (first | exact Mh | apply Mt))) w hs) rfl (by simp [Value.oneCell'])) (by unfold maxLen at *; first | omega | (simp only [List.length_cons, List.length_nil, List.length_append, List.length_map]; omega)) (by omega) rfl rfl rfl H225 ?_
                          clear H225; intro v226 a226 wx226 hnil226 H226
                          obtain ⟨Ar226, cr226, hvr226, hRr226, hmr226⟩ := row_shape (v := v226) H226.sep (by repeat (first | exact Mh | apply Mt))
                          subst hvr226
                          refine hfin (H226.sep.sub (by first | exact S0 | exact S1 | repeat (first | exact S1 | exact S0 | apply S2 | apply S3))) ?_
                          refine htake 7 rfl (by kernel_rfl) (y_fieldB rfl z_field42_3 rfl (by first | (simp only [Nat.zero_add, Nat.add_zero, Nat.reduceAdd]; rfl) | rfl)) rfl rfl rfl (fun _ h => (h.sub (by first | exact S0 | exact S1 | repeat (first | exact S1 | exact S0 | apply S2 | apply S3)))) H226 ?_
                          clear H226; intro a227 H227
                          refine hgo 8 rfl (by kernel_rfl) ?_
                          refine st_store1N rfl z_size40 rfl rfl rfl (by repeat (first | exact Uh | apply Ut)) q_len_c4 q_set_c4_3 (by decide) rfl rfl H227 ?_
                          clear H227; intro wx228 H228
                          refine hfin (H228.sep.sub (by first | exact S0 | exact S1 | repeat (first | exact S1 | exact S0 | apply S2 | apply S3))) ?_
                          refine hdone (by kernel_rfl) ?_
                          refine inb_n ?_
                          refine inb_n ?_
                          refine then_n ?_
                          refine reg ?_
                          refine plain (y_add rfl rfl rfl (by first | exact w64 (by omega) (by omega) | rfl)) rfl rfl rfl H228 ?_
                          clear H228; intro a229 H229
                          refine plain (y_move rfl rfl) rfl rfl rfl H229 ?_
                          clear H229; intro a230 H230
                          refine fin ?_
                          refine then_n ?_
                          refine ⟨(k + 1, okv, ps ++ [⟨false, ((L.drop 3).getD k []).drop 1⟩], (.slice Ar226 _ cr226)), by dsimp only; omega, ⟨by dsimp only; omega, (by dsimp only; rw [List.length_append, List.length_singleton]; omega), ?_, ?_⟩, (H230.drop (by first | exact S0 | exact S1 | repeat (first | exact S1 | exact S0 | apply S2 | apply S3))).weak ⟨rfl, rfl, rfl, rfl, rfl, fi rfl (by dsimp only; omega), trivial⟩ (ir2 (by simp) (by rw [Note.pc_append, Note.pc_one]; rfl) rfl)⟩
                          · intro _
                            exact ⟨(hokt (by assumption)).1, Note.parts_step (by omega) (hokt (by assumption)).2 (Note.part_text (by assumption) (by assumption) (by assumption) (by omega))⟩
                          · intro h
                            exact hokf h
                      · skip
                        try simp only [decide_eq_true_eq, decide_eq_false_iff_not, Bool.not_eq_true', Bool.not_eq_false', Bool.and_eq_true, Bool.not_eq_true, Bool.not_eq_false] at hc211
                        refine reg ?_
                        refine plain (y_assign rfl rfl) rfl rfl rfl H210 ?_
                        clear H210; intro a231 H231
                        refine fin ?_
                        refine inb_n ?_
                        refine inb_n ?_
                        refine then_n ?_
                        refine reg ?_
                        refine plain (y_add rfl rfl rfl (by first | exact w64 (by omega) (by omega) | rfl)) rfl rfl rfl H231 ?_
                        clear H231; intro a232 H232
                        refine plain (y_move rfl rfl) rfl rfl rfl H232 ?_
                        clear H232; intro a233 H233
                        refine fin ?_
                        refine then_n ?_
                        refine ⟨(k + 1, false, ps, (.slice Av _ cv)), by dsimp only; omega, ⟨by dsimp only; omega, (by dsimp only; omega), ?_, ?_⟩, (H233.drop (by first | exact S0 | exact S1 | repeat (first | exact S1 | exact S0 | apply S2 | apply S3))).weak ⟨rfl, rfl, rfl, rfl, rfl, fi rfl (by dsimp only; omega), trivial⟩ rfl⟩
                        · intro h
                          cases h
                        · intro _
                          exact Note.readBatch_at hfs (k := k) (by omega) (Note.part_none (by assumption) (.inr (by first | exact .inl (by assumption) | exact .inr (by omega))))
                  · first
                    | fail
                    | skip
                      clear H202; intro H234
                      try simp only [decide_eq_true_eq, decide_eq_false_iff_not, Bool.not_eq_true', Bool.not_eq_false', Bool.and_eq_true, Bool.not_eq_true, Bool.not_eq_false] at hg203
                      refine skip rfl rfl rfl H234 ?_
                      clear H234; intro a235 H235
                      refine skip rfl rfl rfl H235 ?_
                      clear H235; intro a236 H236
                      refine skip rfl rfl rfl H236 ?_
                      clear H236; intro a237 H237
                      refine skip rfl rfl rfl H237 ?_
                      clear H237; intro a238 H238
                      refine plain (y_pick_f rfl rfl rfl) rfl rfl rfl H238 ?_
                      clear H238; intro a239 H239
                      refine plain (y_assign rfl rfl) rfl rfl rfl H239 ?_
                      clear H239; intro a240 H240
                      refine fin ?_
                      refine then_n ?_
                      refine cnd_f H240 rfl ?_
                      refine reg ?_
                      refine plain (y_assign rfl rfl) rfl rfl rfl H240 ?_
                      clear H240; intro a242 H242
                      refine fin ?_
                      refine inb_n ?_
                      refine inb_n ?_
                      refine then_n ?_
                      refine reg ?_
                      refine plain (y_add rfl rfl rfl (by first | exact w64 (by omega) (by omega) | rfl)) rfl rfl rfl H242 ?_
                      clear H242; intro a243 H243
                      refine plain (y_move rfl rfl) rfl rfl rfl H243 ?_
                      clear H243; intro a244 H244
                      refine fin ?_
                      refine then_n ?_
                      refine ⟨(k + 1, false, ps, (.slice Av _ cv)), by dsimp only; omega, ⟨by dsimp only; omega, (by dsimp only; omega), ?_, ?_⟩, (H244.drop (by first | exact S0 | exact S1 | repeat (first | exact S1 | exact S0 | apply S2 | apply S3))).weak ⟨rfl, rfl, rfl, rfl, rfl, fi rfl (by dsimp only; omega), trivial⟩ rfl⟩
                      · intro h
                        cases h
                      · intro _
                        exact Note.readBatch_at hfs (k := k) (by omega) (Note.part_none (by assumption) (.inr (by first | exact .inl (by assumption) | exact .inr (by omega))))
        · skip
          try simp only [decide_eq_true_eq, decide_eq_false_iff_not, Bool.not_eq_true', Bool.not_eq_false', Bool.and_eq_true, Bool.not_eq_true, Bool.not_eq_false] at hc152
          refine wp_exit ?_
          refine then_x ?_
          refine then_x ?_
          refine inb_hit ?_
          refine then_n ?_
          refine wp_seq ?_
          refine wp_seq ?_
          refine reg ?_
          refine plain (y_move rfl rfl) rfl rfl rfl H151 ?_
          clear H151; intro a245 H245
          refine plain ((by first | exact y_not_d rfl rfl | exact y_not rfl rfl)) rfl rfl rfl H245 ?_
          clear H245; intro a246 H246
          refine fin ?_
          refine then_n ?_
          refine cnd H246 rfl (fun hc247 => ?_) (fun hc247 => ?_) -- cond 18
          · skip
            try simp only [decide_eq_true_eq, decide_eq_false_iff_not, Bool.not_eq_true', Bool.not_eq_false', Bool.and_eq_true, Bool.not_eq_true, Bool.not_eq_false] at hc247
            refine wp_seq ?_
            refine reg ?_
            refine plain (y_build rfl z_zeroN42 z_places42 rfl lay_n) rfl rfl rfl H246 ?_
            clear H246; intro a248 H248
            refine st_storeN rfl z_size42 rfl rfl (agg_cells _) (by repeat (first | exact Uh | apply Ut)) (q_one_c4 rfl rfl rfl rfl) q_len_c4 q_len_c4 q_spl_c4_0_c4 (by decide) rfl rfl H248 ?_
            clear H248; intro wx249 H249
            refine plain (y_assign rfl rfl) rfl rfl rfl H249 ?_
            clear H249; intro a250 H250
            refine fin ?_
            refine then_n ?_
            refine wp_ret ?_
            refine then_r ?_
            refine ng_r ?_
            -- return 7
            refine retct rfl H250 rfl z_agg42 z_size42 (by repeat (first | exact Mh | apply Mt)) q_len_c4 rfl ?_
            first | (rw [Note.readBatch_none hfs]; exact ⟨_, _, rfl, ⟨none, 0, rfl, rfl⟩, (H250.sep.sub (List.nil_sublist _)).addNil 75 2⟩) | (rw [hokf (by assumption)]; exact ⟨_, _, rfl, ⟨none, 0, rfl, rfl⟩, (H250.sep.sub (List.nil_sublist _)).addNil 75 2⟩) | (rw [Note.readBatch_at hfs (k := k) (by omega) (by rw [show (L.drop 3).getD k [] = [] by assumption]; exact Note.part_none Note.nil2 (.inl rfl))]; exact ⟨_, _, rfl, ⟨none, 0, rfl, rfl⟩, (H250.sep.sub (List.nil_sublist _)).addNil 75 2⟩) | (obtain ⟨hG_, hps⟩ := hokt (by assumption); rw [Note.readBatch_ok hfs hG_.1 hG_.2 (k := k) (by omega) hps]; exact ⟨_, _, rfl, ⟨_, _, rfl, rfl⟩, H250.sep.sub (by first | exact S0 | exact S1 | repeat (first | exact S1 | exact S0 | apply S2 | apply S3))⟩)
          · skip
            try simp only [decide_eq_true_eq, decide_eq_false_iff_not, Bool.not_eq_true', Bool.not_eq_false', Bool.and_eq_true, Bool.not_eq_true, Bool.not_eq_false] at hc247
            refine wp_skip ?_
            refine then_n ?_
            refine wp_seq ?_
            refine reg ?_
            refine plain (y_loadAB rfl z_agg42 z_size42 rfl (by repeat (first | exact Mh | apply Mt)) q_ld_c4_0_4 q_len_c4) rfl rfl rfl H246 ?_
            clear H246; intro a251 H251
            refine st_storeN rfl z_size42 rfl rfl (agg_cells _) (by repeat (first | exact Uh | apply Ut)) (q_one_c4 rfl rfl rfl rfl) q_len_c4 q_len_c4 q_spl_c4_0_c4 (by decide) rfl rfl H251 ?_
            clear H251; intro wx252 H252
            refine plain (y_assign rfl rfl) rfl rfl rfl H252 ?_
            clear H252; intro a253 H253
            refine fin ?_
            refine then_n ?_
            refine wp_ret ?_
            refine ng_r ?_
            -- return 8
            refine retct rfl H253 rfl z_agg42 z_size42 (by repeat (first | exact Mh | apply Mt)) q_len_c4 rfl ?_
            first | (rw [Note.readBatch_none hfs]; exact ⟨_, _, rfl, ⟨none, 0, rfl, rfl⟩, (H253.sep.sub (List.nil_sublist _)).addNil 75 2⟩) | (rw [hokf (by assumption)]; exact ⟨_, _, rfl, ⟨none, 0, rfl, rfl⟩, (H253.sep.sub (List.nil_sublist _)).addNil 75 2⟩) | (rw [Note.readBatch_at hfs (k := k) (by omega) (by rw [show (L.drop 3).getD k [] = [] by assumption]; exact Note.part_none Note.nil2 (.inl rfl))]; exact ⟨_, _, rfl, ⟨none, 0, rfl, rfl⟩, (H253.sep.sub (List.nil_sublist _)).addNil 75 2⟩) | (obtain ⟨hG_, hps⟩ := hokt (by assumption); rw [Note.readBatch_ok hfs hG_.1 hG_.2 (k := k) (by omega) hps]; exact ⟨_, _, rfl, ⟨_, _, rfl, rfl⟩, H253.sep.sub (by first | exact S0 | exact S1 | repeat (first | exact S1 | exact S0 | apply S2 | apply S3))⟩)
  · skip
    simp only [List.nil_append] at H9
    refine plain (y_move rfl rfl) rfl rfl rfl H9 ?_
    clear H9; intro a254 H254
    refine plain (y_extract rfl rfl rfl) rfl rfl rfl H254 ?_
    clear H254; intro a255 H255
    refine plain (y_extract rfl rfl rfl) rfl rfl rfl H255 ?_
    clear H255; intro a256 H256
    refine plain (y_assign rfl rfl) rfl rfl rfl H256 ?_
    clear H256; intro a257 H257
    refine plain (y_assign rfl rfl) rfl rfl rfl H257 ?_
    clear H257; intro a258 H258
    refine fin ?_
    refine then_n ?_
    refine wp_seq ?_
    refine reg ?_
    refine plain (y_move rfl rfl) rfl rfl rfl H258 ?_
    clear H258; intro a259 H259
    refine plain (y_move rfl rfl) rfl rfl rfl H259 ?_
    clear H259; intro a260 H260
    refine skip rfl rfl rfl H260 ?_
    clear H260; intro a261 H261
    refine skip rfl rfl rfl H261 ?_
    clear H261; intro a262 H262
    refine skip rfl rfl rfl H262 ?_
    clear H262; intro a263 H263
    refine skip rfl rfl rfl H263 ?_
    clear H263; intro a264 H264
    refine skip rfl rfl rfl H264 ?_
    clear H264; intro a265 H265
    refine skip rfl rfl rfl H265 ?_
    clear H265; intro a266 H266
    refine skip rfl rfl rfl H266 ?_
    clear H266; intro a267 H267
    refine skip rfl rfl rfl H267 ?_
    clear H267; intro a268 H268
    refine plain (y_pick_f rfl rfl rfl) rfl rfl rfl H268 ?_
    clear H268; intro a269 H269
    refine plain (y_move rfl rfl) rfl rfl rfl H269 ?_
    clear H269; intro a270 H270
    refine skip rfl rfl rfl H270 ?_
    clear H270; intro a271 H271
    refine skip rfl rfl rfl H271 ?_
    clear H271; intro a272 H272
    refine skip rfl rfl rfl H272 ?_
    clear H272; intro a273 H273
    refine plain (y_pick_f rfl rfl rfl) rfl rfl rfl H273 ?_
    clear H273; intro a274 H274
    refine plain (y_assign rfl rfl) rfl rfl rfl H274 ?_
    clear H274; intro a275 H275
    refine fin ?_
    refine then_n ?_
    refine wp_seq ?_
    refine wp_label ?_
    refine then_n ?_
    refine wp_seq ?_
    refine wp_seq ?_
    refine reg ?_
    refine plain (y_move rfl rfl) rfl rfl rfl H275 ?_
    clear H275; intro a276 H276
    refine plain (y_len rfl Tryd.underlying49 rfl) rfl rfl rfl H276 ?_
    clear H276; intro a277 H277
    refine plain (y_move rfl rfl) rfl rfl rfl H277 ?_
    clear H277; intro a278 H278
    refine fin ?_
    refine then_n ?_
    refine wp_block ?_
    refine loop (ι := Nat) (fun k => [(2, .pointer (some ⟨b1, 0, none⟩)), (4, .pointer (some ⟨b3, 0, none⟩)), (6, .bool false), (34, .slice none 0 0), (35, .int .i64 0), (36, .int .i64 0)]) (fun k => [It.blk b1 42 [i64 0, i64 0, i64 0, .slice none 0 0]]) (fun k => k = 0) (fun k => 0) (0) rfl ((H278.drop (by first | exact S0 | exact S1 | repeat (first | exact S1 | exact S0 | apply S2 | apply S3))).weak ⟨rfl, rfl, rfl, rfl, rfl, rfl, trivial⟩ rfl) ?_
    clear H278; intro k a279 wx279 hok279 H279
    have hok := hok279
    refine wp_seq ?_
    refine reg ?_
    refine plain (y_lss rfl rfl rfl) rfl rfl rfl H279 ?_
    clear H279; intro a280 H280
    refine fin ?_
    refine then_n ?_
    refine wp_seq ?_
    refine cnd H280 rfl (fun hc281 => ?_) (fun hc281 => ?_) -- cond 19
    · (try simp only [decide_eq_true_eq, decide_eq_false_iff_not, Bool.not_eq_true', Bool.not_eq_false', Bool.and_eq_true, Bool.not_eq_true, Bool.not_eq_false] at hc281); (exfalso; omega)
    · skip
      try simp only [decide_eq_true_eq, decide_eq_false_iff_not, Bool.not_eq_true', Bool.not_eq_false', Bool.and_eq_true, Bool.not_eq_true, Bool.not_eq_false] at hc281
      refine wp_exit ?_
      refine then_x ?_
      refine then_x ?_
      refine inb_hit ?_
      refine then_n ?_
      refine wp_seq ?_
      refine wp_seq ?_
      refine reg ?_
      refine plain (y_move rfl rfl) rfl rfl rfl H280 ?_
      clear H280; intro a282 H282
      refine plain (y_not rfl rfl) rfl rfl rfl H282 ?_
      clear H282; intro a283 H283
      refine fin ?_
      refine then_n ?_
      refine cnd_t H283 rfl ?_
      refine wp_seq ?_
      refine reg ?_
      refine plain (y_build rfl z_zeroN42 z_places42 rfl lay_n) rfl rfl rfl H283 ?_
      clear H283; intro a285 H285
      refine st_storeN rfl z_size42 rfl rfl (agg_cells _) (by repeat (first | exact Uh | apply Ut)) (q_one_c4 rfl rfl rfl rfl) q_len_c4 q_len_c4 q_spl_c4_0_c4 (by decide) rfl rfl H285 ?_
      clear H285; intro wx286 H286
      refine plain (y_assign rfl rfl) rfl rfl rfl H286 ?_
      clear H286; intro a287 H287
      refine fin ?_
      refine then_n ?_
      refine wp_ret ?_
      refine then_r ?_
      refine ng_r ?_
      -- return 9
      refine retct rfl H287 rfl z_agg42 z_size42 (by repeat (first | exact Mh | apply Mt)) q_len_c4 rfl ?_
      first | (rw [Note.readBatch_none hfs]; exact ⟨_, _, rfl, ⟨none, 0, rfl, rfl⟩, (H287.sep.sub (List.nil_sublist _)).addNil 75 2⟩) | (rw [hokf (by assumption)]; exact ⟨_, _, rfl, ⟨none, 0, rfl, rfl⟩, (H287.sep.sub (List.nil_sublist _)).addNil 75 2⟩) | (rw [Note.readBatch_at hfs (k := k) (by omega) (by rw [show (L.drop 3).getD k [] = [] by assumption]; exact Note.part_none Note.nil2 (.inl rfl))]; exact ⟨_, _, rfl, ⟨none, 0, rfl, rfl⟩, (H287.sep.sub (List.nil_sublist _)).addNil 75 2⟩) | (obtain ⟨hG_, hps⟩ := hokt (by assumption); rw [Note.readBatch_ok hfs hG_.1 hG_.2 (k := k) (by omega) hps]; exact ⟨_, _, rfl, ⟨_, _, rfl, rfl⟩, H287.sep.sub (by first | exact S0 | exact S1 | repeat (first | exact S1 | exact S0 | apply S2 | apply S3))⟩)

end Go.Proofs.YtnnhnnhdoipbaaaDoor.N_RBatch

set_option linter.unusedVariables false
set_option linter.unusedSimpArgs false
namespace Go.Proofs.YtnnhnnhdoipbaaaDoor.N_RefB
open Go.Sx Go.RowKit Go.Proofs.YtnnhnnhdoipbaaaDoor.N_Block Go.Proofs.YtnnhnnhdoipbaaaDoor.N_Sum Go.Proofs.YtnnhnnhdoipbaaaDoor.N_Ref Go.Proofs.YtnnhnnhdoipbaaaDoor.N_RSum Go.Proofs.YtnnhnnhdoipbaaaDoor.N_Leaf Go.Proofs.YtnnhnnhdoipbaaaDoor.N_Num Go.Proofs.YtnnhnnhdoipbaaaDoor.N_Key Go.Proofs.YtnnhnnhdoipbaaaDoor.N_Ref Go.Proofs.YtnnhnnhdoipbaaaDoor.N_RSum Go.Proofs.YtnnhnnhdoipbaaaDoor.N_Tag Go.Proofs.YtnnhnnhdoipbaaaDoor.N_Read Go.Proofs.YtnnhnnhdoipbaaaDoor.N_Lay Go.Proofs.YtnnhnnhdoipbaaaDoor.N_Eq Go.Proofs.YtnnhnnhdoipbaaaDoor.N_Ref0

theorem z_field25_0 : fieldB Tryd.prog 25 0 = some 0 := by kernel_rfl
theorem z_agg3 : aggB Tryd.prog 3 = some false := by kernel_rfl
theorem q_ix_c4b32_0 {a0 a1 a2 a3 : Value} {t4 : List UInt8} : (a0 :: a1 :: a2 :: a3 :: t4.map u8)[0]? = some a0 := ix_0
theorem z_field25_1 : fieldB Tryd.prog 25 1 = some 1 := by kernel_rfl
theorem q_ix_c4b32_1 {a0 a1 a2 a3 : Value} {t4 : List UInt8} : (a0 :: a1 :: a2 :: a3 :: t4.map u8)[1]? = some a1 := (ix_c (o := 0) ix_0)
theorem z_field25_2 : fieldB Tryd.prog 25 2 = some 2 := by kernel_rfl
theorem q_ix_c4b32_2 {a0 a1 a2 a3 : Value} {t4 : List UInt8} : (a0 :: a1 :: a2 :: a3 :: t4.map u8)[2]? = some a2 := (ix_c (o := 1) (ix_c (o := 0) ix_0))
theorem z_field25_3 : fieldB Tryd.prog 25 3 = some 3 := by kernel_rfl
theorem q_ix_c4b32_3 {a0 a1 a2 a3 : Value} {t4 : List UInt8} : (a0 :: a1 :: a2 :: a3 :: t4.map u8)[3]? = some a3 := (ix_c (o := 2) (ix_c (o := 1) (ix_c (o := 0) ix_0)))
theorem z_agg25 : aggB Tryd.prog 25 = some true := by kernel_rfl
theorem z_size25 : sizeB Tryd.prog 25 = some 36 := by kernel_rfl
theorem q_ld_c4b32_0_36 {a0 a1 a2 a3 : Value} {t4 : List UInt8} (h4 : t4.length = 32) : ((a0 :: a1 :: a2 :: a3 :: t4.map u8).drop 0).take 36 = a0 :: a1 :: a2 :: a3 :: t4.map u8 := (ld_a (len_c (n := 35) (len_c (n := 34) (len_c (n := 33) (len_c (n := 32) (len_e (k := 32) h4))))))
theorem q_len_c4b32 {a0 a1 a2 a3 : Value} {t4 : List UInt8} (h4 : t4.length = 32) : (a0 :: a1 :: a2 :: a3 :: t4.map u8).length = 36 := (len_c (n := 35) (len_c (n := 34) (len_c (n := 33) (len_c (n := 32) (len_e (k := 32) h4)))))
theorem z_field25_4 : fieldB Tryd.prog 25 4 = some 4 := by kernel_rfl
theorem z_agg23 : aggB Tryd.prog 23 = some true := by kernel_rfl
theorem z_size23 : sizeB Tryd.prog 23 = some 32 := by kernel_rfl
theorem q_ld_c4b32_4_32 {a0 a1 a2 a3 : Value} {t4 : List UInt8} (h4 : t4.length = 32) : ((a0 :: a1 :: a2 :: a3 :: t4.map u8).drop 4).take 32 = t4.map u8 := (ld_c (o := 3) (ld_c (o := 2) (ld_c (o := 1) (ld_c (o := 0) (ld_a (len_e (k := 32) h4))))))
theorem q_len_b32 {t0 : List UInt8} (h0 : t0.length = 32) : (t0.map u8).length = 32 := (len_e (k := 32) h0)
theorem z_size9 : sizeB Tryd.prog 9 = some 1 := by kernel_rfl
theorem z_zero9 : zeroL Tryd.prog 9 = some ([.string ⟨#[]⟩]) := by kernel_rfl
theorem z_zeroN25 : zeroL Tryd.prog 25 = some ((.int .i64 0 :: (.int .i64 0 :: (.int .i64 0 :: (.int .i64 0 :: (List.replicate 32 (0 : UInt8)).map u8))))) := by kernel_rfl
theorem z_places25 : placesB Tryd.prog 25 = some [(0, 1), (1, 1), (2, 1), (3, 1), (4, 32)] := by kernel_rfl
theorem q_one_c4b32 {a0 a1 a2 a3 : Value} {t4 : List UInt8} (o0 : a0.oneCell' = true) (o1 : a1.oneCell' = true) (o2 : a2.oneCell' = true) (o3 : a3.oneCell' = true) : (a0 :: a1 :: a2 :: a3 :: t4.map u8).all (·.oneCell') = true := (one_c o0 (one_c o1 (one_c o2 (one_c o3 (one_u8 _)))))
theorem q_spl_c4b32_0_c4b32 {a0 a1 a2 a3 : Value} {t4 : List UInt8} {b0 b1 b2 b3 : Value} {s4 : List UInt8} (h4 : t4.length = 32) (g4 : s4.length = 32) : spl (a0 :: a1 :: a2 :: a3 :: t4.map u8) 0 (b0 :: b1 :: b2 :: b3 :: s4.map u8) = b0 :: b1 :: b2 :: b3 :: s4.map u8 := (spl_a (z := 36) (len_c (n := 35) (len_c (n := 34) (len_c (n := 33) (len_c (n := 32) (len_e (k := 32) h4))))) (len_c (n := 35) (len_c (n := 34) (len_c (n := 33) (len_c (n := 32) (len_e (k := 32) g4))))))
theorem z_zeroN23 : zeroL Tryd.prog 23 = some ((List.replicate 32 (0 : UInt8)).map u8) := by kernel_rfl
theorem q_one_b32 {t0 : List UInt8} : (t0.map u8).all (·.oneCell') = true := (one_u8 _)
theorem q_spl_b32_0_b32 {t0 : List UInt8} {s0 : List UInt8} (h0 : t0.length = 32) (g0 : s0.length = 32) : spl (t0.map u8) 0 (s0.map u8) = s0.map u8 := (spl_a (z := 32) (len_e (k := 32) h0) (len_e (k := 32) g0))
theorem q_ld_b32_0_32 {t0 : List UInt8} (h0 : t0.length = 32) : ((t0.map u8).drop 0).take 32 = t0.map u8 := (ld_a (len_e (k := 32) h0))
theorem q_spl_c4b32_4_b32 {a0 a1 a2 a3 : Value} {t4 : List UInt8} {s0 : List UInt8} (h4 : t4.length = 32) (g0 : s0.length = 32) : spl (a0 :: a1 :: a2 :: a3 :: t4.map u8) 4 (s0.map u8) = a0 :: a1 :: a2 :: a3 :: s0.map u8 := (spl_c (o := 3) (spl_c (o := 2) (spl_c (o := 1) (spl_c (o := 0) (spl_a (z := 32) (len_e (k := 32) h4) (len_e (k := 32) g0))))))
theorem z_agg9 : aggB Tryd.prog 9 = some false := by kernel_rfl
theorem z_size3 : sizeB Tryd.prog 3 = some 1 := by kernel_rfl
theorem q_spl_c4b32_0_c1 {a0 a1 a2 a3 : Value} {t4 : List UInt8} {b0 : Value} : spl (a0 :: a1 :: a2 :: a3 :: t4.map u8) 0 (b0 :: []) = b0 :: a1 :: a2 :: a3 :: t4.map u8 := spl_0
theorem q_spl_c4b32_1_c1 {a0 a1 a2 a3 : Value} {t4 : List UInt8} {b0 : Value} : spl (a0 :: a1 :: a2 :: a3 :: t4.map u8) 1 (b0 :: []) = a0 :: b0 :: a2 :: a3 :: t4.map u8 := (spl_c (o := 0) spl_0)
theorem q_spl_c4b32_2_c1 {a0 a1 a2 a3 : Value} {t4 : List UInt8} {b0 : Value} : spl (a0 :: a1 :: a2 :: a3 :: t4.map u8) 2 (b0 :: []) = a0 :: a1 :: b0 :: a3 :: t4.map u8 := (spl_c (o := 1) (spl_c (o := 0) spl_0))
end Go.Proofs.YtnnhnnhdoipbaaaDoor.N_RefB

set_option linter.unusedVariables false
set_option linter.unusedSimpArgs false
namespace Go.Proofs.YtnnhnnhdoipbaaaDoor.N_RefI
open Go.Sx Go.RowKit Go.Proofs.YtnnhnnhdoipbaaaDoor.N_Block Go.Proofs.YtnnhnnhdoipbaaaDoor.N_Sum Go.Proofs.YtnnhnnhdoipbaaaDoor.N_Ref Go.Proofs.YtnnhnnhdoipbaaaDoor.N_RSum Go.Proofs.YtnnhnnhdoipbaaaDoor.N_Leaf Go.Proofs.YtnnhnnhdoipbaaaDoor.N_Num Go.Proofs.YtnnhnnhdoipbaaaDoor.N_Key Go.Proofs.YtnnhnnhdoipbaaaDoor.N_Ref Go.Proofs.YtnnhnnhdoipbaaaDoor.N_RSum Go.Proofs.YtnnhnnhdoipbaaaDoor.N_Tag Go.Proofs.YtnnhnnhdoipbaaaDoor.N_Read Go.Proofs.YtnnhnnhdoipbaaaDoor.N_Lay Go.Proofs.YtnnhnnhdoipbaaaDoor.N_Eq Go.Proofs.YtnnhnnhdoipbaaaDoor.N_Ref0

theorem z_field46_1 : fieldB Tryd.prog 46 1 = some 1 := by kernel_rfl
theorem z_agg3 : aggB Tryd.prog 3 = some false := by kernel_rfl
theorem q_ix_c4_1 {a0 a1 a2 a3 : Value} : (a0 :: a1 :: a2 :: a3 :: [])[1]? = some a1 := (ix_c (o := 0) ix_0)
theorem z_field46_2 : fieldB Tryd.prog 46 2 = some 2 := by kernel_rfl
theorem q_ix_c4_2 {a0 a1 a2 a3 : Value} : (a0 :: a1 :: a2 :: a3 :: [])[2]? = some a2 := (ix_c (o := 1) (ix_c (o := 0) ix_0))
theorem z_field46_3 : fieldB Tryd.prog 46 3 = some 3 := by kernel_rfl
theorem z_agg9 : aggB Tryd.prog 9 = some false := by kernel_rfl
theorem q_ix_c4_3 {a0 a1 a2 a3 : Value} : (a0 :: a1 :: a2 :: a3 :: [])[3]? = some a3 := (ix_c (o := 2) (ix_c (o := 1) (ix_c (o := 0) ix_0)))
theorem z_field46_0 : fieldB Tryd.prog 46 0 = some 0 := by kernel_rfl
theorem q_ix_c4_0 {a0 a1 a2 a3 : Value} : (a0 :: a1 :: a2 :: a3 :: [])[0]? = some a0 := ix_0
theorem z_agg46 : aggB Tryd.prog 46 = some true := by kernel_rfl
theorem z_size46 : sizeB Tryd.prog 46 = some 4 := by kernel_rfl
theorem q_ld_c4_0_4 {a0 a1 a2 a3 : Value} : ((a0 :: a1 :: a2 :: a3 :: []).drop 0).take 4 = a0 :: a1 :: a2 :: a3 :: [] := (ld_a (len_c (n := 3) (len_c (n := 2) (len_c (n := 1) (len_c (n := 0) len_n)))))
theorem q_len_c4 {a0 a1 a2 a3 : Value} : (a0 :: a1 :: a2 :: a3 :: []).length = 4 := (len_c (n := 3) (len_c (n := 2) (len_c (n := 1) (len_c (n := 0) len_n))))
theorem z_size9 : sizeB Tryd.prog 9 = some 1 := by kernel_rfl
theorem z_zero9 : zeroL Tryd.prog 9 = some ([.string ⟨#[]⟩]) := by kernel_rfl
theorem z_zeroN46 : zeroL Tryd.prog 46 = some ((.int .i64 0 :: (.int .i64 0 :: (.int .i64 0 :: (.string ⟨#[]⟩ :: []))))) := by kernel_rfl
theorem z_places46 : placesB Tryd.prog 46 = some [(0, 1), (1, 1), (2, 1), (3, 1)] := by kernel_rfl
theorem q_one_c4 {a0 a1 a2 a3 : Value} (o0 : a0.oneCell' = true) (o1 : a1.oneCell' = true) (o2 : a2.oneCell' = true) (o3 : a3.oneCell' = true) : (a0 :: a1 :: a2 :: a3 :: []).all (·.oneCell') = true := (one_c o0 (one_c o1 (one_c o2 (one_c o3 one_n))))
theorem q_spl_c4_0_c4 {a0 a1 a2 a3 : Value} {b0 b1 b2 b3 : Value} : spl (a0 :: a1 :: a2 :: a3 :: []) 0 (b0 :: b1 :: b2 :: b3 :: []) = b0 :: b1 :: b2 :: b3 :: [] := (spl_a (z := 4) (len_c (n := 3) (len_c (n := 2) (len_c (n := 1) (len_c (n := 0) len_n)))) (len_c (n := 3) (len_c (n := 2) (len_c (n := 1) (len_c (n := 0) len_n)))))
theorem z_size3 : sizeB Tryd.prog 3 = some 1 := by kernel_rfl
end Go.Proofs.YtnnhnnhdoipbaaaDoor.N_RefI

set_option linter.unusedVariables false
set_option linter.unusedSimpArgs false
namespace Go.Proofs.YtnnhnnhdoipbaaaDoor.N_RefR
open Go.Sx Go.RowKit Go.Proofs.YtnnhnnhdoipbaaaDoor.N_Block Go.Proofs.YtnnhnnhdoipbaaaDoor.N_Sum Go.Proofs.YtnnhnnhdoipbaaaDoor.N_Ref Go.Proofs.YtnnhnnhdoipbaaaDoor.N_RSum Go.Proofs.YtnnhnnhdoipbaaaDoor.N_Leaf Go.Proofs.YtnnhnnhdoipbaaaDoor.N_Num Go.Proofs.YtnnhnnhdoipbaaaDoor.N_Key Go.Proofs.YtnnhnnhdoipbaaaDoor.N_Ref Go.Proofs.YtnnhnnhdoipbaaaDoor.N_RSum Go.Proofs.YtnnhnnhdoipbaaaDoor.N_Tag Go.Proofs.YtnnhnnhdoipbaaaDoor.N_Read Go.Proofs.YtnnhnnhdoipbaaaDoor.N_Lay Go.Proofs.YtnnhnnhdoipbaaaDoor.N_Eq Go.Proofs.YtnnhnnhdoipbaaaDoor.N_Ref0

theorem z_zeroN35 : zeroL Tryd.prog 35 = some ((.int .i64 0 :: (.int .i64 0 :: (.int .i64 0 :: (.string ⟨#[]⟩ :: ((List.replicate 32 (0 : UInt8)).map u8 ++ (List.replicate 32 (0 : UInt8)).map u8)))))) := by kernel_rfl
theorem z_places35 : placesB Tryd.prog 35 = some [(0, 1), (1, 1), (2, 1), (3, 1), (4, 32), (36, 32)] := by kernel_rfl
theorem z_size35 : sizeB Tryd.prog 35 = some 68 := by kernel_rfl
theorem q_one_c4b32b32 {a0 a1 a2 a3 : Value} {t4 t5 : List UInt8} (o0 : a0.oneCell' = true) (o1 : a1.oneCell' = true) (o2 : a2.oneCell' = true) (o3 : a3.oneCell' = true) : (a0 :: a1 :: a2 :: a3 :: (t4.map u8 ++ (t5.map u8))).all (·.oneCell') = true := (one_c o0 (one_c o1 (one_c o2 (one_c o3 (one_b (one_u8 _))))))
theorem q_len_c4b32b32 {a0 a1 a2 a3 : Value} {t4 t5 : List UInt8} (h4 : t4.length = 32) (h5 : t5.length = 32) : (a0 :: a1 :: a2 :: a3 :: (t4.map u8 ++ (t5.map u8))).length = 68 := (len_c (n := 67) (len_c (n := 66) (len_c (n := 65) (len_c (n := 64) (len_b (k := 32) (n := 32) h4 (len_e (k := 32) h5))))))
theorem q_spl_c4b32b32_0_c4b32b32 {a0 a1 a2 a3 : Value} {t4 t5 : List UInt8} {b0 b1 b2 b3 : Value} {s4 s5 : List UInt8} (h4 : t4.length = 32) (h5 : t5.length = 32) (g4 : s4.length = 32) (g5 : s5.length = 32) : spl (a0 :: a1 :: a2 :: a3 :: (t4.map u8 ++ (t5.map u8))) 0 (b0 :: b1 :: b2 :: b3 :: (s4.map u8 ++ (s5.map u8))) = b0 :: b1 :: b2 :: b3 :: (s4.map u8 ++ (s5.map u8)) := (spl_a (z := 68) (len_c (n := 67) (len_c (n := 66) (len_c (n := 65) (len_c (n := 64) (len_b (k := 32) (n := 32) h4 (len_e (k := 32) h5)))))) (len_c (n := 67) (len_c (n := 66) (len_c (n := 65) (len_c (n := 64) (len_b (k := 32) (n := 32) g4 (len_e (k := 32) g5)))))))
theorem z_agg35 : aggB Tryd.prog 35 = some true := by kernel_rfl
theorem z_size9 : sizeB Tryd.prog 9 = some 1 := by kernel_rfl
theorem z_zero9 : zeroL Tryd.prog 9 = some ([.string ⟨#[]⟩]) := by kernel_rfl
theorem z_agg23 : aggB Tryd.prog 23 = some true := by kernel_rfl
theorem z_size23 : sizeB Tryd.prog 23 = some 32 := by kernel_rfl
theorem q_ld_b32_0_32 {t0 : List UInt8} (h0 : t0.length = 32) : ((t0.map u8).drop 0).take 32 = t0.map u8 := (ld_a (len_e (k := 32) h0))
theorem q_len_b32 {t0 : List UInt8} (h0 : t0.length = 32) : (t0.map u8).length = 32 := (len_e (k := 32) h0)
theorem q_spl_c4b32b32_0_c1 {a0 a1 a2 a3 : Value} {t4 t5 : List UInt8} {b0 : Value} : spl (a0 :: a1 :: a2 :: a3 :: (t4.map u8 ++ (t5.map u8))) 0 (b0 :: []) = b0 :: a1 :: a2 :: a3 :: (t4.map u8 ++ (t5.map u8)) := spl_0
theorem q_spl_c4b32b32_1_c1 {a0 a1 a2 a3 : Value} {t4 t5 : List UInt8} {b0 : Value} : spl (a0 :: a1 :: a2 :: a3 :: (t4.map u8 ++ (t5.map u8))) 1 (b0 :: []) = a0 :: b0 :: a2 :: a3 :: (t4.map u8 ++ (t5.map u8)) := (spl_c (o := 0) spl_0)
theorem q_spl_c4b32b32_2_c1 {a0 a1 a2 a3 : Value} {t4 t5 : List UInt8} {b0 : Value} : spl (a0 :: a1 :: a2 :: a3 :: (t4.map u8 ++ (t5.map u8))) 2 (b0 :: []) = a0 :: a1 :: b0 :: a3 :: (t4.map u8 ++ (t5.map u8)) := (spl_c (o := 1) (spl_c (o := 0) spl_0))
theorem q_spl_c4b32b32_3_c1 {a0 a1 a2 a3 : Value} {t4 t5 : List UInt8} {b0 : Value} : spl (a0 :: a1 :: a2 :: a3 :: (t4.map u8 ++ (t5.map u8))) 3 (b0 :: []) = a0 :: a1 :: a2 :: b0 :: (t4.map u8 ++ (t5.map u8)) := (spl_c (o := 2) (spl_c (o := 1) (spl_c (o := 0) spl_0)))
theorem q_spl_c4b32b32_4_b32 {a0 a1 a2 a3 : Value} {t4 t5 : List UInt8} {s0 : List UInt8} (h4 : t4.length = 32) (g0 : s0.length = 32) : spl (a0 :: a1 :: a2 :: a3 :: (t4.map u8 ++ (t5.map u8))) 4 (s0.map u8) = a0 :: a1 :: a2 :: a3 :: (s0.map u8 ++ (t5.map u8)) := (spl_c (o := 3) (spl_c (o := 2) (spl_c (o := 1) (spl_c (o := 0) (spl_h (z := 32) (len_e h4) (len_e g0))))))
theorem q_spl_c4b32b32_36_b32 {a0 a1 a2 a3 : Value} {t4 t5 : List UInt8} {s0 : List UInt8} (h4 : t4.length = 32) (h5 : t5.length = 32) (g0 : s0.length = 32) : spl (a0 :: a1 :: a2 :: a3 :: (t4.map u8 ++ (t5.map u8))) 36 (s0.map u8) = a0 :: a1 :: a2 :: a3 :: (t4.map u8 ++ (s0.map u8)) := (spl_c (o := 35) (spl_c (o := 34) (spl_c (o := 33) (spl_c (o := 32) (spl_b (k := 32) (o := 0) h4 rfl (spl_a (z := 32) (len_e (k := 32) h5) (len_e (k := 32) g0)))))))
theorem z_field35_4 : fieldB Tryd.prog 35 4 = some 4 := by kernel_rfl
theorem q_ld_c4b32b32_4_32 {a0 a1 a2 a3 : Value} {t4 t5 : List UInt8} (h4 : t4.length = 32) : ((a0 :: a1 :: a2 :: a3 :: (t4.map u8 ++ (t5.map u8))).drop 4).take 32 = t4.map u8 := (ld_c (o := 3) (ld_c (o := 2) (ld_c (o := 1) (ld_c (o := 0) (ld_h h4)))))
theorem z_field35_0 : fieldB Tryd.prog 35 0 = some 0 := by kernel_rfl
theorem z_agg3 : aggB Tryd.prog 3 = some false := by kernel_rfl
theorem q_ix_c4b32b32_0 {a0 a1 a2 a3 : Value} {t4 t5 : List UInt8} : (a0 :: a1 :: a2 :: a3 :: (t4.map u8 ++ (t5.map u8)))[0]? = some a0 := ix_0
theorem z_field35_1 : fieldB Tryd.prog 35 1 = some 1 := by kernel_rfl
theorem q_ix_c4b32b32_1 {a0 a1 a2 a3 : Value} {t4 t5 : List UInt8} : (a0 :: a1 :: a2 :: a3 :: (t4.map u8 ++ (t5.map u8)))[1]? = some a1 := (ix_c (o := 0) ix_0)
theorem z_field35_2 : fieldB Tryd.prog 35 2 = some 2 := by kernel_rfl
theorem q_ix_c4b32b32_2 {a0 a1 a2 a3 : Value} {t4 t5 : List UInt8} : (a0 :: a1 :: a2 :: a3 :: (t4.map u8 ++ (t5.map u8)))[2]? = some a2 := (ix_c (o := 1) (ix_c (o := 0) ix_0))
theorem z_field35_3 : fieldB Tryd.prog 35 3 = some 3 := by kernel_rfl
theorem z_agg9 : aggB Tryd.prog 9 = some false := by kernel_rfl
theorem q_ix_c4b32b32_3 {a0 a1 a2 a3 : Value} {t4 t5 : List UInt8} : (a0 :: a1 :: a2 :: a3 :: (t4.map u8 ++ (t5.map u8)))[3]? = some a3 := (ix_c (o := 2) (ix_c (o := 1) (ix_c (o := 0) ix_0)))
theorem q_ld_c4b32b32_0_68 {a0 a1 a2 a3 : Value} {t4 t5 : List UInt8} (h4 : t4.length = 32) (h5 : t5.length = 32) : ((a0 :: a1 :: a2 :: a3 :: (t4.map u8 ++ (t5.map u8))).drop 0).take 68 = a0 :: a1 :: a2 :: a3 :: (t4.map u8 ++ (t5.map u8)) := (ld_a (len_c (n := 67) (len_c (n := 66) (len_c (n := 65) (len_c (n := 64) (len_b (k := 32) (n := 32) h4 (len_e (k := 32) h5)))))))
theorem z_field35_5 : fieldB Tryd.prog 35 5 = some 36 := by kernel_rfl
theorem q_ld_c4b32b32_36_32 {a0 a1 a2 a3 : Value} {t4 t5 : List UInt8} (h4 : t4.length = 32) (h5 : t5.length = 32) : ((a0 :: a1 :: a2 :: a3 :: (t4.map u8 ++ (t5.map u8))).drop 36).take 32 = t5.map u8 := (ld_c (o := 35) (ld_c (o := 34) (ld_c (o := 33) (ld_c (o := 32) (ld_b (k := 32) (o := 0) h4 rfl (ld_a (len_e (k := 32) h5)))))))
theorem z_size3 : sizeB Tryd.prog 3 = some 1 := by kernel_rfl
end Go.Proofs.YtnnhnnhdoipbaaaDoor.N_RefR

set_option linter.unusedVariables false
set_option linter.unusedSimpArgs false
namespace Go.Proofs.YtnnhnnhdoipbaaaDoor.N_RWBatch
open Go.Sx Go.RowKit Go.Proofs.YtnnhnnhdoipbaaaDoor.N_Block Go.Proofs.YtnnhnnhdoipbaaaDoor.N_Sum Go.Proofs.YtnnhnnhdoipbaaaDoor.N_Ref Go.Proofs.YtnnhnnhdoipbaaaDoor.N_RSum Go.Proofs.YtnnhnnhdoipbaaaDoor.N_Leaf Go.Proofs.YtnnhnnhdoipbaaaDoor.N_Num Go.Proofs.YtnnhnnhdoipbaaaDoor.N_Key Go.Proofs.YtnnhnnhdoipbaaaDoor.N_Ref Go.Proofs.YtnnhnnhdoipbaaaDoor.N_RSum Go.Proofs.YtnnhnnhdoipbaaaDoor.N_Tag Go.Proofs.YtnnhnnhdoipbaaaDoor.N_Read Go.Proofs.YtnnhnnhdoipbaaaDoor.N_Lay Go.Proofs.YtnnhnnhdoipbaaaDoor.N_Eq Go.Proofs.YtnnhnnhdoipbaaaDoor.N_Ref0

theorem z_field75_0 : fieldB Tryd.prog 75 0 = some 0 := by kernel_rfl
theorem z_agg4 : aggB Tryd.prog 4 = some false := by kernel_rfl
theorem q_ix_c2_0 {a0 a1 : Value} : (a0 :: a1 :: [])[0]? = some a0 := ix_0
theorem z_field75_1 : fieldB Tryd.prog 75 1 = some 1 := by kernel_rfl
theorem z_agg9 : aggB Tryd.prog 9 = some false := by kernel_rfl
theorem q_ix_c2_1 {a0 a1 : Value} : (a0 :: a1 :: [])[1]? = some a1 := (ix_c (o := 0) ix_0)
theorem z_field42_0 : fieldB Tryd.prog 42 0 = some 0 := by kernel_rfl
theorem z_agg3 : aggB Tryd.prog 3 = some false := by kernel_rfl
theorem q_ix_c4_0 {a0 a1 a2 a3 : Value} : (a0 :: a1 :: a2 :: a3 :: [])[0]? = some a0 := ix_0
theorem z_field42_1 : fieldB Tryd.prog 42 1 = some 1 := by kernel_rfl
theorem q_ix_c4_1 {a0 a1 a2 a3 : Value} : (a0 :: a1 :: a2 :: a3 :: [])[1]? = some a1 := (ix_c (o := 0) ix_0)
theorem z_field42_2 : fieldB Tryd.prog 42 2 = some 2 := by kernel_rfl
theorem q_ix_c4_2 {a0 a1 a2 a3 : Value} : (a0 :: a1 :: a2 :: a3 :: [])[2]? = some a2 := (ix_c (o := 1) (ix_c (o := 0) ix_0))
theorem z_field42_3 : fieldB Tryd.prog 42 3 = some 3 := by kernel_rfl
theorem z_agg40 : aggB Tryd.prog 40 = some false := by kernel_rfl
theorem q_ix_c4_3 {a0 a1 a2 a3 : Value} : (a0 :: a1 :: a2 :: a3 :: [])[3]? = some a3 := (ix_c (o := 2) (ix_c (o := 1) (ix_c (o := 0) ix_0)))
theorem z_size9 : sizeB Tryd.prog 9 = some 1 := by kernel_rfl
theorem z_zero9 : zeroL Tryd.prog 9 = some ([.string ⟨#[]⟩]) := by kernel_rfl
theorem z_size75 : sizeB Tryd.prog 75 = some 2 := by kernel_rfl
theorem z_agg75 : aggB Tryd.prog 75 = some true := by kernel_rfl
theorem z_slice49 : sliceB Tryd.prog 49 = some (9, 1, 16) := by kernel_rfl
theorem z_notint49 : notIntB Tryd.prog 49 = true := by kernel_rfl
end Go.Proofs.YtnnhnnhdoipbaaaDoor.N_RWBatch

set_option linter.unusedVariables false
set_option linter.unusedSimpArgs false
namespace Go.Proofs.YtnnhnnhdoipbaaaDoor.N_RRBatch
open Go.Sx Go.RowKit Go.Proofs.YtnnhnnhdoipbaaaDoor.N_Block Go.Proofs.YtnnhnnhdoipbaaaDoor.N_Sum Go.Proofs.YtnnhnnhdoipbaaaDoor.N_Ref Go.Proofs.YtnnhnnhdoipbaaaDoor.N_RSum Go.Proofs.YtnnhnnhdoipbaaaDoor.N_Leaf Go.Proofs.YtnnhnnhdoipbaaaDoor.N_Num Go.Proofs.YtnnhnnhdoipbaaaDoor.N_Key Go.Proofs.YtnnhnnhdoipbaaaDoor.N_Ref Go.Proofs.YtnnhnnhdoipbaaaDoor.N_RSum Go.Proofs.YtnnhnnhdoipbaaaDoor.N_Tag Go.Proofs.YtnnhnnhdoipbaaaDoor.N_Read Go.Proofs.YtnnhnnhdoipbaaaDoor.N_Lay Go.Proofs.YtnnhnnhdoipbaaaDoor.N_Eq Go.Proofs.YtnnhnnhdoipbaaaDoor.N_Ref0 Go.Proofs.YtnnhnnhdoipbaaaDoor.N_RWBatch

theorem z_zeroN42 : zeroL Tryd.prog 42 = some ((.int .i64 0 :: (.int .i64 0 :: (.int .i64 0 :: (.slice none 0 0 :: []))))) := by kernel_rfl
theorem z_places42 : placesB Tryd.prog 42 = some [(0, 1), (1, 1), (2, 1), (3, 1)] := by kernel_rfl
theorem z_size42 : sizeB Tryd.prog 42 = some 4 := by kernel_rfl
theorem q_one_c4 {a0 a1 a2 a3 : Value} (o0 : a0.oneCell' = true) (o1 : a1.oneCell' = true) (o2 : a2.oneCell' = true) (o3 : a3.oneCell' = true) : (a0 :: a1 :: a2 :: a3 :: []).all (·.oneCell') = true := (one_c o0 (one_c o1 (one_c o2 (one_c o3 one_n))))
theorem q_len_c4 {a0 a1 a2 a3 : Value} : (a0 :: a1 :: a2 :: a3 :: []).length = 4 := (len_c (n := 3) (len_c (n := 2) (len_c (n := 1) (len_c (n := 0) len_n))))
theorem q_spl_c4_0_c4 {a0 a1 a2 a3 : Value} {b0 b1 b2 b3 : Value} : spl (a0 :: a1 :: a2 :: a3 :: []) 0 (b0 :: b1 :: b2 :: b3 :: []) = b0 :: b1 :: b2 :: b3 :: [] := (spl_a (z := 4) (len_c (n := 3) (len_c (n := 2) (len_c (n := 1) (len_c (n := 0) len_n)))) (len_c (n := 3) (len_c (n := 2) (len_c (n := 1) (len_c (n := 0) len_n)))))
theorem z_agg42 : aggB Tryd.prog 42 = some true := by kernel_rfl
theorem z_size3 : sizeB Tryd.prog 3 = some 1 := by kernel_rfl
theorem z_agg3 : aggB Tryd.prog 3 = some false := by kernel_rfl
theorem z_size9 : sizeB Tryd.prog 9 = some 1 := by kernel_rfl
theorem z_agg9 : aggB Tryd.prog 9 = some false := by kernel_rfl
theorem z_zeroN75 : zeroL Tryd.prog 75 = some ((.bool false :: (.string ⟨#[]⟩ :: []))) := by kernel_rfl
theorem z_places75 : placesB Tryd.prog 75 = some [(0, 1), (1, 1)] := by kernel_rfl
theorem q_len_c2 {a0 a1 : Value} : (a0 :: a1 :: []).length = 2 := (len_c (n := 1) (len_c (n := 0) len_n))
theorem q_spl_c2_0_c1 {a0 a1 : Value} {b0 : Value} : spl (a0 :: a1 :: []) 0 (b0 :: []) = b0 :: a1 :: [] := spl_0
theorem z_size75 : sizeB Tryd.prog 75 = some 2 := by kernel_rfl
theorem q_one_c2 {a0 a1 : Value} (o0 : a0.oneCell' = true) (o1 : a1.oneCell' = true) : (a0 :: a1 :: []).all (·.oneCell') = true := (one_c o0 (one_c o1 one_n))
theorem q_spl_c2_0_c2 {a0 a1 : Value} {b0 b1 : Value} : spl (a0 :: a1 :: []) 0 (b0 :: b1 :: []) = b0 :: b1 :: [] := (spl_a (z := 2) (len_c (n := 1) (len_c (n := 0) len_n)) (len_c (n := 1) (len_c (n := 0) len_n)))
theorem z_field75_0 : fieldB Tryd.prog 75 0 = some 0 := by kernel_rfl
theorem z_agg4 : aggB Tryd.prog 4 = some false := by kernel_rfl
theorem q_ix_c2_0 {a0 a1 : Value} : (a0 :: a1 :: [])[0]? = some a0 := ix_0
theorem z_field75_1 : fieldB Tryd.prog 75 1 = some 1 := by kernel_rfl
theorem z_agg75 : aggB Tryd.prog 75 = some true := by kernel_rfl
theorem z_field42_3 : fieldB Tryd.prog 42 3 = some 3 := by kernel_rfl
theorem z_agg40 : aggB Tryd.prog 40 = some false := by kernel_rfl
theorem q_ix_c4_3 {a0 a1 a2 a3 : Value} : (a0 :: a1 :: a2 :: a3 :: [])[3]? = some a3 := (ix_c (o := 2) (ix_c (o := 1) (ix_c (o := 0) ix_0)))
theorem z_zero75 : zeroL Tryd.prog 75 = some ([.bool false, .string ⟨#[]⟩]) := by kernel_rfl
theorem z_slice40 : sliceB Tryd.prog 40 = some (75, 2, 24) := by kernel_rfl
theorem z_notint40 : notIntB Tryd.prog 40 = true := by kernel_rfl
theorem z_size40 : sizeB Tryd.prog 40 = some 1 := by kernel_rfl
theorem q_set_c4_3 {a0 a1 a2 a3 : Value} {v : Value} : (a0 :: a1 :: a2 :: a3 :: []).set 3 v = a0 :: a1 :: a2 :: v :: [] := (set_c (o := 2) (set_c (o := 1) (set_c (o := 0) set_0)))
theorem z_field42_0 : fieldB Tryd.prog 42 0 = some 0 := by kernel_rfl
theorem q_ix_c4_0 {a0 a1 a2 a3 : Value} : (a0 :: a1 :: a2 :: a3 :: [])[0]? = some a0 := ix_0
theorem z_field42_1 : fieldB Tryd.prog 42 1 = some 1 := by kernel_rfl
theorem q_ix_c4_1 {a0 a1 a2 a3 : Value} : (a0 :: a1 :: a2 :: a3 :: [])[1]? = some a1 := (ix_c (o := 0) ix_0)
theorem z_field42_2 : fieldB Tryd.prog 42 2 = some 2 := by kernel_rfl
theorem q_ix_c4_2 {a0 a1 a2 a3 : Value} : (a0 :: a1 :: a2 :: a3 :: [])[2]? = some a2 := (ix_c (o := 1) (ix_c (o := 0) ix_0))
theorem q_ld_c4_0_4 {a0 a1 a2 a3 : Value} : ((a0 :: a1 :: a2 :: a3 :: []).drop 0).take 4 = a0 :: a1 :: a2 :: a3 :: [] := (ld_a (len_c (n := 3) (len_c (n := 2) (len_c (n := 1) (len_c (n := 0) len_n)))))

set_option maxRecDepth 100000 in
set_option maxHeartbeats 1000000 in
theorem rbatches (x y : Note.Batch) (A B : Option Addr) (c e : Nat) (hx : x.parts.length ≤ 9223372036854775807) (hy : y.parts.length ≤ 9223372036854775807) {w : World} (hA : Rd w A (Note.pc x.parts)) (hB : Rd w B (Note.pc y.parts)) : Calls Tryd.prog 33 #[.agg (Note.Batch.cells x A c).toArray, .agg (Note.Batch.cells y B e).toArray] w (Gives (.bool (decide (x = y))) [] w) := by
  have lz32 : (List.replicate 32 (0 : UInt8)).length = 32 := List.length_replicate
  refine enterL (args := [.agg (Note.Batch.cells x A c).toArray, .agg (Note.Batch.cells y B e).toArray]) Tryd.func33 rfl rfl (l := []) (Sep.refl _) ?_
  intro a0 H0
  refine wp_seq ?_
  refine reg ?_
  refine st_box rfl rfl (agg_cells _) rfl rfl rfl H0 ?_
  clear H0; intro b1 a1 wx1 H1
  refine st_box rfl rfl (agg_cells _) rfl rfl rfl H1 ?_
  clear H1; intro b2 a2 wx2 H2
  refine plain (y_assign rfl rfl) rfl rfl rfl H2 ?_
  clear H2; intro a3 H3
  refine fin ?_
  refine then_n ?_
  refine wp_seq ?_
  refine wp_seq ?_
  refine reg ?_
  refine plain (y_fieldB rfl z_field42_0 rfl (by first | (simp only [Nat.zero_add, Nat.add_zero, Nat.reduceAdd]; rfl) | rfl)) rfl rfl rfl H3 ?_
  clear H3; intro a4 H4
  refine plain (y_loadB rfl z_agg3 rfl (by repeat (first | exact Mh | apply Mt)) q_ix_c4_0) rfl rfl rfl H4 ?_
  clear H4; intro a5 H5
  refine plain (y_fieldB rfl z_field42_0 rfl (by first | (simp only [Nat.zero_add, Nat.add_zero, Nat.reduceAdd]; rfl) | rfl)) rfl rfl rfl H5 ?_
  clear H5; intro a6 H6
  refine plain (y_loadB rfl z_agg3 rfl (by repeat (first | exact Mh | apply Mt)) q_ix_c4_0) rfl rfl rfl H6 ?_
  clear H6; intro a7 H7
  refine plain (y_neq rfl rfl rfl) rfl rfl rfl H7 ?_
  clear H7; intro a8 H8
  refine plain (y_move rfl rfl) rfl rfl rfl H8 ?_
  clear H8; intro a9 H9
  refine Sx.part (d := 11) H9 rfl (fun hg10 => ?_) (fun hg10 => ?_)
  · first
    | fail
    | skip
      clear H9; intro H11
      try simp only [decide_eq_true_eq, decide_eq_false_iff_not, Bool.not_eq_true', Bool.not_eq_false', Bool.and_eq_true, Bool.not_eq_true, Bool.not_eq_false] at hg10
      refine skip rfl rfl rfl H11 ?_
      clear H11; intro a12 H12
      refine skip rfl rfl rfl H12 ?_
      clear H12; intro a13 H13
      refine skip rfl rfl rfl H13 ?_
      clear H13; intro a14 H14
      refine skip rfl rfl rfl H14 ?_
      clear H14; intro a15 H15
      refine skip rfl rfl rfl H15 ?_
      clear H15; intro a16 H16
      refine plain (y_pick_t rfl rfl rfl) rfl rfl rfl H16 ?_
      clear H16; intro a17 H17
      refine plain (y_move rfl rfl) rfl rfl rfl H17 ?_
      clear H17; intro a18 H18
      refine skip rfl rfl rfl H18 ?_
      clear H18; intro a19 H19
      refine skip rfl rfl rfl H19 ?_
      clear H19; intro a20 H20
      refine skip rfl rfl rfl H20 ?_
      clear H20; intro a21 H21
      refine skip rfl rfl rfl H21 ?_
      clear H21; intro a22 H22
      refine skip rfl rfl rfl H22 ?_
      clear H22; intro a23 H23
      refine plain (y_pick_t rfl rfl rfl) rfl rfl rfl H23 ?_
      clear H23; intro a24 H24
      refine plain (y_move rfl rfl) rfl rfl rfl H24 ?_
      clear H24; intro a25 H25
      refine skip rfl rfl rfl H25 ?_
      clear H25; intro a26 H26
      refine skip rfl rfl rfl H26 ?_
      clear H26; intro a27 H27
      refine skip rfl rfl rfl H27 ?_
      clear H27; intro a28 H28
      refine skip rfl rfl rfl H28 ?_
      clear H28; intro a29 H29
      refine skip rfl rfl rfl H29 ?_
      clear H29; intro a30 H30
      refine skip rfl rfl rfl H30 ?_
      clear H30; intro a31 H31
      refine skip rfl rfl rfl H31 ?_
      clear H31; intro a32 H32
      refine plain (y_pick_t rfl rfl rfl) rfl rfl rfl H32 ?_
      clear H32; intro a33 H33
      refine fin ?_
      refine then_n ?_
      refine cnd_t H33 rfl ?_
      refine wp_seq ?_
      refine reg ?_
      refine plain (y_assign rfl rfl) rfl rfl rfl H33 ?_
      clear H33; intro a35 H35
      refine fin ?_
      refine then_n ?_
      refine wp_ret ?_
      refine then_r ?_
      -- return 1
      refine ret1 rfl H35 rfl ?_
      refine ⟨_, [], rfl, ⟨?_, rfl⟩, H35.sep.sub (List.nil_sublist _)⟩
      first | exact congrArg Value.bool (decide_eq_false (fun e => by subst e; omega)).symm | exact congrArg Value.bool (decide_eq_false (fun e => by subst e; exact absurd rfl (by assumption))).symm | exact congrArg Value.bool (decide_eq_true (Note.Batch.same (by omega) (by omega) (by omega) (Oct.eq_of_take hlen (by omega) hok.2))).symm
  · first
    | fail
    | skip
      clear H9; intro H36
      try simp only [decide_eq_true_eq, decide_eq_false_iff_not, Bool.not_eq_true', Bool.not_eq_false', Bool.and_eq_true, Bool.not_eq_true, Bool.not_eq_false] at hg10
      refine plain (y_fieldB rfl z_field42_1 rfl (by first | (simp only [Nat.zero_add, Nat.add_zero, Nat.reduceAdd]; rfl) | rfl)) rfl rfl rfl H36 ?_
      clear H36; intro a37 H37
      refine plain (y_loadB rfl z_agg3 rfl (by repeat (first | exact Mh | apply Mt)) q_ix_c4_1) rfl rfl rfl H37 ?_
      clear H37; intro a38 H38
      refine plain (y_fieldB rfl z_field42_1 rfl (by first | (simp only [Nat.zero_add, Nat.add_zero, Nat.reduceAdd]; rfl) | rfl)) rfl rfl rfl H38 ?_
      clear H38; intro a39 H39
      refine plain (y_loadB rfl z_agg3 rfl (by repeat (first | exact Mh | apply Mt)) q_ix_c4_1) rfl rfl rfl H39 ?_
      clear H39; intro a40 H40
      refine plain (y_neq rfl rfl rfl) rfl rfl rfl H40 ?_
      clear H40; intro a41 H41
      refine plain (y_pick_f rfl rfl rfl) rfl rfl rfl H41 ?_
      clear H41; intro a42 H42
      refine plain (y_move rfl rfl) rfl rfl rfl H42 ?_
      clear H42; intro a43 H43
      refine Sx.part (d := 18) H43 rfl (fun hg44 => ?_) (fun hg44 => ?_)
      · first
        | fail
        | skip
          clear H43; intro H45
          try simp only [decide_eq_true_eq, decide_eq_false_iff_not, Bool.not_eq_true', Bool.not_eq_false', Bool.and_eq_true, Bool.not_eq_true, Bool.not_eq_false] at hg44
          refine skip rfl rfl rfl H45 ?_
          clear H45; intro a46 H46
          refine skip rfl rfl rfl H46 ?_
          clear H46; intro a47 H47
          refine skip rfl rfl rfl H47 ?_
          clear H47; intro a48 H48
          refine skip rfl rfl rfl H48 ?_
          clear H48; intro a49 H49
          refine skip rfl rfl rfl H49 ?_
          clear H49; intro a50 H50
          refine plain (y_pick_t rfl rfl rfl) rfl rfl rfl H50 ?_
          clear H50; intro a51 H51
          refine plain (y_move rfl rfl) rfl rfl rfl H51 ?_
          clear H51; intro a52 H52
          refine skip rfl rfl rfl H52 ?_
          clear H52; intro a53 H53
          refine skip rfl rfl rfl H53 ?_
          clear H53; intro a54 H54
          refine skip rfl rfl rfl H54 ?_
          clear H54; intro a55 H55
          refine skip rfl rfl rfl H55 ?_
          clear H55; intro a56 H56
          refine skip rfl rfl rfl H56 ?_
          clear H56; intro a57 H57
          refine skip rfl rfl rfl H57 ?_
          clear H57; intro a58 H58
          refine skip rfl rfl rfl H58 ?_
          clear H58; intro a59 H59
          refine plain (y_pick_t rfl rfl rfl) rfl rfl rfl H59 ?_
          clear H59; intro a60 H60
          refine fin ?_
          refine then_n ?_
          refine cnd_t H60 rfl ?_
          refine wp_seq ?_
          refine reg ?_
          refine plain (y_assign rfl rfl) rfl rfl rfl H60 ?_
          clear H60; intro a62 H62
          refine fin ?_
          refine then_n ?_
          refine wp_ret ?_
          refine then_r ?_
          -- return 2
          refine ret1 rfl H62 rfl ?_
          refine ⟨_, [], rfl, ⟨?_, rfl⟩, H62.sep.sub (List.nil_sublist _)⟩
          first | exact congrArg Value.bool (decide_eq_false (fun e => by subst e; omega)).symm | exact congrArg Value.bool (decide_eq_false (fun e => by subst e; exact absurd rfl (by assumption))).symm | exact congrArg Value.bool (decide_eq_true (Note.Batch.same (by omega) (by omega) (by omega) (Oct.eq_of_take hlen (by omega) hok.2))).symm
      · first
        | fail
        | skip
          clear H43; intro H63
          try simp only [decide_eq_true_eq, decide_eq_false_iff_not, Bool.not_eq_true', Bool.not_eq_false', Bool.and_eq_true, Bool.not_eq_true, Bool.not_eq_false] at hg44
          refine plain (y_fieldB rfl z_field42_2 rfl (by first | (simp only [Nat.zero_add, Nat.add_zero, Nat.reduceAdd]; rfl) | rfl)) rfl rfl rfl H63 ?_
          clear H63; intro a64 H64
          refine plain (y_loadB rfl z_agg3 rfl (by repeat (first | exact Mh | apply Mt)) q_ix_c4_2) rfl rfl rfl H64 ?_
          clear H64; intro a65 H65
          refine plain (y_fieldB rfl z_field42_2 rfl (by first | (simp only [Nat.zero_add, Nat.add_zero, Nat.reduceAdd]; rfl) | rfl)) rfl rfl rfl H65 ?_
          clear H65; intro a66 H66
          refine plain (y_loadB rfl z_agg3 rfl (by repeat (first | exact Mh | apply Mt)) q_ix_c4_2) rfl rfl rfl H66 ?_
          clear H66; intro a67 H67
          refine plain (y_neq rfl rfl rfl) rfl rfl rfl H67 ?_
          clear H67; intro a68 H68
          refine plain (y_pick_f rfl rfl rfl) rfl rfl rfl H68 ?_
          clear H68; intro a69 H69
          refine plain (y_move rfl rfl) rfl rfl rfl H69 ?_
          clear H69; intro a70 H70
          refine Sx.part (d := 25) H70 rfl (fun hg71 => ?_) (fun hg71 => ?_)
          · first
            | fail
            | skip
              clear H70; intro H72
              try simp only [decide_eq_true_eq, decide_eq_false_iff_not, Bool.not_eq_true', Bool.not_eq_false', Bool.and_eq_true, Bool.not_eq_true, Bool.not_eq_false] at hg71
              refine skip rfl rfl rfl H72 ?_
              clear H72; intro a73 H73
              refine skip rfl rfl rfl H73 ?_
              clear H73; intro a74 H74
              refine skip rfl rfl rfl H74 ?_
              clear H74; intro a75 H75
              refine skip rfl rfl rfl H75 ?_
              clear H75; intro a76 H76
              refine skip rfl rfl rfl H76 ?_
              clear H76; intro a77 H77
              refine skip rfl rfl rfl H77 ?_
              clear H77; intro a78 H78
              refine skip rfl rfl rfl H78 ?_
              clear H78; intro a79 H79
              refine plain (y_pick_t rfl rfl rfl) rfl rfl rfl H79 ?_
              clear H79; intro a80 H80
              refine fin ?_
              refine then_n ?_
              refine cnd_t H80 rfl ?_
              refine wp_seq ?_
              refine reg ?_
              refine plain (y_assign rfl rfl) rfl rfl rfl H80 ?_
              clear H80; intro a82 H82
              refine fin ?_
              refine then_n ?_
              refine wp_ret ?_
              refine then_r ?_
              -- return 3
              refine ret1 rfl H82 rfl ?_
              refine ⟨_, [], rfl, ⟨?_, rfl⟩, H82.sep.sub (List.nil_sublist _)⟩
              first | exact congrArg Value.bool (decide_eq_false (fun e => by subst e; omega)).symm | exact congrArg Value.bool (decide_eq_false (fun e => by subst e; exact absurd rfl (by assumption))).symm | exact congrArg Value.bool (decide_eq_true (Note.Batch.same (by omega) (by omega) (by omega) (Oct.eq_of_take hlen (by omega) hok.2))).symm
          · first
            | fail
            | skip
              clear H70; intro H83
              try simp only [decide_eq_true_eq, decide_eq_false_iff_not, Bool.not_eq_true', Bool.not_eq_false', Bool.and_eq_true, Bool.not_eq_true, Bool.not_eq_false] at hg71
              refine plain (y_fieldB rfl z_field42_3 rfl (by first | (simp only [Nat.zero_add, Nat.add_zero, Nat.reduceAdd]; rfl) | rfl)) rfl rfl rfl H83 ?_
              clear H83; intro a84 H84
              refine plain (y_loadB rfl z_agg40 rfl (by repeat (first | exact Mh | apply Mt)) q_ix_c4_3) rfl rfl rfl H84 ?_
              clear H84; intro a85 H85
              refine plain (y_len rfl Tryd.underlying40 rfl) rfl rfl rfl H85 ?_
              clear H85; intro a86 H86
              refine plain (y_fieldB rfl z_field42_3 rfl (by first | (simp only [Nat.zero_add, Nat.add_zero, Nat.reduceAdd]; rfl) | rfl)) rfl rfl rfl H86 ?_
              clear H86; intro a87 H87
              refine plain (y_loadB rfl z_agg40 rfl (by repeat (first | exact Mh | apply Mt)) q_ix_c4_3) rfl rfl rfl H87 ?_
              clear H87; intro a88 H88
              refine plain (y_len rfl Tryd.underlying40 rfl) rfl rfl rfl H88 ?_
              clear H88; intro a89 H89
              refine plain (y_neq rfl rfl rfl) rfl rfl rfl H89 ?_
              clear H89; intro a90 H90
              refine plain (y_pick_f rfl rfl rfl) rfl rfl rfl H90 ?_
              clear H90; intro a91 H91
              refine fin ?_
              refine then_n ?_
              refine cnd H91 rfl (fun hc92 => ?_) (fun hc92 => ?_) -- cond 4
              · skip
                try simp only [decide_eq_true_eq, decide_eq_false_iff_not, Bool.not_eq_true', Bool.not_eq_false', Bool.and_eq_true, Bool.not_eq_true, Bool.not_eq_false] at hc92
                refine wp_seq ?_
                refine reg ?_
                refine plain (y_assign rfl rfl) rfl rfl rfl H91 ?_
                clear H91; intro a93 H93
                refine fin ?_
                refine then_n ?_
                refine wp_ret ?_
                refine then_r ?_
                -- return 4
                refine ret1 rfl H93 rfl ?_
                refine ⟨_, [], rfl, ⟨?_, rfl⟩, H93.sep.sub (List.nil_sublist _)⟩
                first | exact congrArg Value.bool (decide_eq_false (fun e => by subst e; omega)).symm | exact congrArg Value.bool (decide_eq_false (fun e => by subst e; exact absurd rfl (by assumption))).symm | exact congrArg Value.bool (decide_eq_true (Note.Batch.same (by omega) (by omega) (by omega) (Oct.eq_of_take hlen (by omega) hok.2))).symm
              · skip
                try simp only [decide_eq_true_eq, decide_eq_false_iff_not, Bool.not_eq_true', Bool.not_eq_false', Bool.and_eq_true, Bool.not_eq_true, Bool.not_eq_false] at hc92
                refine wp_skip ?_
                refine then_n ?_
                refine wp_seq ?_
                refine wp_seq ?_
                refine reg ?_
                refine plain (y_assign rfl rfl) rfl rfl rfl H91 ?_
                clear H91; intro a94 H94
                refine fin ?_
                refine then_n ?_
                refine wp_block ?_
                have hlen : x.parts.length = y.parts.length := by omega
                refine loop (ι := Nat) (fun k => [(2, .pointer (some ⟨b1, 0, none⟩)), (3, .pointer (some ⟨b2, 0, none⟩)), (5, .int .i64 (k : Int))]) (fun k => [It.blk b2 42 (Note.Batch.cells y B e), It.blk b1 42 (Note.Batch.cells x A c)]) (fun k => k ≤ x.parts.length ∧ x.parts.take k = y.parts.take k) (fun k => x.parts.length - k) (0) ⟨Nat.zero_le _, rfl⟩ (H94.weak ⟨rfl, rfl, rfl, trivial⟩ rfl) ?_
                clear H94; intro k a95 wx95 hok95 H95
                have hok := hok95
                refine wp_seq ?_
                refine wp_seq ?_
                refine reg ?_
                refine plain (y_move rfl rfl) rfl rfl rfl H95 ?_
                clear H95; intro a96 H96
                refine plain (y_fieldB rfl z_field42_3 rfl (by first | (simp only [Nat.zero_add, Nat.add_zero, Nat.reduceAdd]; rfl) | rfl)) rfl rfl rfl H96 ?_
                clear H96; intro a97 H97
                refine plain (y_loadB rfl z_agg40 rfl (by repeat (first | exact Mh | apply Mt)) q_ix_c4_3) rfl rfl rfl H97 ?_
                clear H97; intro a98 H98
                refine plain (y_len rfl Tryd.underlying40 rfl) rfl rfl rfl H98 ?_
                clear H98; intro a99 H99
                refine plain (y_lss rfl rfl rfl) rfl rfl rfl H99 ?_
                clear H99; intro a100 H100
                refine fin ?_
                refine then_n ?_
                refine cnd H100 rfl (fun hc101 => ?_) (fun hc101 => ?_) -- cond 5
                · skip
                  try simp only [decide_eq_true_eq, decide_eq_false_iff_not, Bool.not_eq_true', Bool.not_eq_false', Bool.and_eq_true, Bool.not_eq_true, Bool.not_eq_false] at hc101
                  refine wp_skip ?_
                  refine then_n ?_
                  refine wp_seq ?_
                  refine wp_block ?_
                  refine wp_seq ?_
                  refine qreg (by kernel_rfl) (by kernel_rfl) H100 ?_
                  have F102 := H100.fr
                  clear H100
                  refine qplain (y_fieldB rfl z_field42_3 rfl (by first | (simp only [Nat.zero_add, Nat.add_zero, Nat.reduceAdd]; rfl) | rfl)) rfl rfl rfl F102 ?_
                  clear F102; intro a103 H103
                  refine qplain (y_loadB rfl z_agg40 rfl (by repeat (first | exact Mh | apply Mt)) q_ix_c4_3) rfl rfl rfl H103 ?_
                  clear H103; intro a104 H104
                  refine qplain (y_move rfl rfl) rfl rfl rfl H104 ?_
                  clear H104; intro a105 H105
                  refine qplain (y_ixR rfl Tryd.underlying40 z_size75 rfl rfl (by omega) (by omega) (rd_old hA (by simp)) (by rw [Note.pc_len]; omega)) rfl rfl rfl H105 ?_
                  clear H105; intro a106 H106
                  refine qplain (y_loadAS rfl z_agg75 z_size75 rfl (rd_old hA (by simp)) (show _ = Note.Part.cells (x.parts.getD k ⟨false, []⟩) from Note.pc_take k (by omega)) rfl (by decide)) rfl rfl rfl H106 ?_
                  clear H106; intro a107 H107
                  refine qplain (y_fieldB rfl z_field42_3 rfl (by first | (simp only [Nat.zero_add, Nat.add_zero, Nat.reduceAdd]; rfl) | rfl)) rfl rfl rfl H107 ?_
                  clear H107; intro a108 H108
                  refine qplain (y_loadB rfl z_agg40 rfl (by repeat (first | exact Mh | apply Mt)) q_ix_c4_3) rfl rfl rfl H108 ?_
                  clear H108; intro a109 H109
                  refine qplain (y_move rfl rfl) rfl rfl rfl H109 ?_
                  clear H109; intro a110 H110
                  refine qplain (y_ixR rfl Tryd.underlying40 z_size75 rfl rfl (by omega) (by omega) (rd_old hB (by simp)) (by rw [Note.pc_len]; omega)) rfl rfl rfl H110 ?_
                  clear H110; intro a111 H111
                  refine qplain (y_loadAS rfl z_agg75 z_size75 rfl (rd_old hB (by simp)) (show _ = Note.Part.cells (y.parts.getD k ⟨false, []⟩) from Note.pc_take k (by omega)) rfl (by decide)) rfl rfl rfl H111 ?_
                  clear H111; intro a112 H112
                  refine qplain (y_tneq rfl (by kernel_rfl) rfl rfl (eqr_Part (x.parts.getD k ⟨false, []⟩) (y.parts.getD k ⟨false, []⟩))) rfl rfl rfl H112 ?_
                  clear H112; intro a113 H113
                  refine qfin H113 ?_
                  clear H113; intro wx114 H114
                  refine then_n ?_
                  refine cnd H114 rfl (fun hc115 => ?_) (fun hc115 => ?_) -- cond 6
                  · skip
                    try simp only [decide_eq_true_eq, decide_eq_false_iff_not, Bool.not_eq_true', Bool.not_eq_false', Bool.and_eq_true, Bool.not_eq_true, Bool.not_eq_false] at hc115
                    refine wp_seq ?_
                    refine reg ?_
                    refine plain (y_assign rfl rfl) rfl rfl rfl H114 ?_
                    clear H114; intro a116 H116
                    refine fin ?_
                    refine then_n ?_
                    refine wp_ret ?_
                    refine inb_r ?_
                    refine then_r ?_
                    refine then_r ?_
                    refine inb_r ?_
                    refine then_r ?_
                    -- return 5
                    refine ret1 rfl H116 rfl ?_
                    refine ⟨_, [], rfl, ⟨?_, rfl⟩, H116.sep.sub (List.nil_sublist _)⟩
                    first | exact congrArg Value.bool (decide_eq_false (fun e => by subst e; omega)).symm | exact congrArg Value.bool (decide_eq_false (fun e => by subst e; exact absurd rfl (by assumption))).symm | exact congrArg Value.bool (decide_eq_true (Note.Batch.same (by omega) (by omega) (by omega) (Oct.eq_of_take hlen (by omega) hok.2))).symm
                  · skip
                    try simp only [decide_eq_true_eq, decide_eq_false_iff_not, Bool.not_eq_true', Bool.not_eq_false', Bool.and_eq_true, Bool.not_eq_true, Bool.not_eq_false] at hc115
                    refine wp_skip ?_
                    refine inb_n ?_
                    refine then_n ?_
                    refine reg ?_
                    refine plain (y_move rfl rfl) rfl rfl rfl H114 ?_
                    clear H114; intro a117 H117
                    refine plain (y_add rfl rfl rfl (by first | exact w64 (by omega) (by omega) | rfl)) rfl rfl rfl H117 ?_
                    clear H117; intro a118 H118
                    refine plain (y_assign rfl rfl) rfl rfl rfl H118 ?_
                    clear H118; intro a119 H119
                    refine fin ?_
                    refine then_n ?_
                    refine ⟨k + 1, by omega, ⟨by omega, Oct.take_eq_succ ⟨false, []⟩ (by omega) (by omega) hok.2 (by first | assumption | exact Decidable.not_not.1 (by assumption))⟩, H119.weak ⟨rfl, rfl, fi rfl (by omega), trivial⟩ rfl⟩
                · skip
                  try simp only [decide_eq_true_eq, decide_eq_false_iff_not, Bool.not_eq_true', Bool.not_eq_false', Bool.and_eq_true, Bool.not_eq_true, Bool.not_eq_false] at hc101
                  refine wp_exit ?_
                  refine then_x ?_
                  refine then_x ?_
                  refine inb_hit ?_
                  refine then_n ?_
                  refine wp_seq ?_
                  refine reg ?_
                  refine plain (y_assign rfl rfl) rfl rfl rfl H100 ?_
                  clear H100; intro a120 H120
                  refine fin ?_
                  refine then_n ?_
                  refine wp_ret ?_
                  -- return 6
                  refine ret1 rfl H120 rfl ?_
                  refine ⟨_, [], rfl, ⟨?_, rfl⟩, H120.sep.sub (List.nil_sublist _)⟩
                  first | exact congrArg Value.bool (decide_eq_false (fun e => by subst e; omega)).symm | exact congrArg Value.bool (decide_eq_false (fun e => by subst e; exact absurd rfl (by assumption))).symm | exact congrArg Value.bool (decide_eq_true (Note.Batch.same (by omega) (by omega) (by omega) (Oct.eq_of_take hlen (by omega) hok.2))).symm

end Go.Proofs.YtnnhnnhdoipbaaaDoor.N_RRBatch

set_option linter.unusedVariables false
set_option linter.unusedSimpArgs false
namespace Go.Proofs.YtnnhnnhdoipbaaaDoor.N_Aw
open Go.Sx Go.RowKit Go.Proofs.YtnnhnnhdoipbaaaDoor.N_Block Go.Proofs.YtnnhnnhdoipbaaaDoor.N_Sum Go.Proofs.YtnnhnnhdoipbaaaDoor.N_Ref Go.Proofs.YtnnhnnhdoipbaaaDoor.N_RSum Go.Proofs.YtnnhnnhdoipbaaaDoor.N_Leaf Go.Proofs.YtnnhnnhdoipbaaaDoor.N_Num Go.Proofs.YtnnhnnhdoipbaaaDoor.N_Key Go.Proofs.YtnnhnnhdoipbaaaDoor.N_Ref Go.Proofs.YtnnhnnhdoipbaaaDoor.N_RSum Go.Proofs.YtnnhnnhdoipbaaaDoor.N_Tag Go.Proofs.YtnnhnnhdoipbaaaDoor.N_Read Go.Proofs.YtnnhnnhdoipbaaaDoor.N_Lay Go.Proofs.YtnnhnnhdoipbaaaDoor.N_Eq Go.Proofs.YtnnhnnhdoipbaaaDoor.N_Ref0 Go.Proofs.YtnnhnnhdoipbaaaDoor.N_Rec Go.Proofs.YtnnhnnhdoipbaaaDoor.N_RRec Go.Proofs.YtnnhnnhdoipbaaaDoor.N_Fields Go.Proofs.YtnnhnnhdoipbaaaDoor.N_RBid Go.Proofs.YtnnhnnhdoipbaaaDoor.N_Sign Go.Proofs.YtnnhnnhdoipbaaaDoor.N_Item Go.Proofs.YtnnhnnhdoipbaaaDoor.N_WBatch Go.Proofs.YtnnhnnhdoipbaaaDoor.N_RBatch Go.Proofs.YtnnhnnhdoipbaaaDoor.N_RefB Go.Proofs.YtnnhnnhdoipbaaaDoor.N_RefI Go.Proofs.YtnnhnnhdoipbaaaDoor.N_RefR Go.Proofs.YtnnhnnhdoipbaaaDoor.N_RWBatch Go.Proofs.YtnnhnnhdoipbaaaDoor.N_RRBatch

theorem z_zeroN25 : zeroL Tryd.prog 25 = some ((.int .i64 0 :: (.int .i64 0 :: (.int .i64 0 :: (.int .i64 0 :: (List.replicate 32 (0 : UInt8)).map u8))))) := by kernel_rfl
theorem z_places25 : placesB Tryd.prog 25 = some [(0, 1), (1, 1), (2, 1), (3, 1), (4, 32)] := by kernel_rfl
theorem q_len_c4b32 {a0 a1 a2 a3 : Value} {t4 : List UInt8} (h4 : t4.length = 32) : (a0 :: a1 :: a2 :: a3 :: t4.map u8).length = 36 := (len_c (n := 35) (len_c (n := 34) (len_c (n := 33) (len_c (n := 32) (len_e (k := 32) h4)))))
theorem q_spl_c4b32_0_c1 {a0 a1 a2 a3 : Value} {t4 : List UInt8} {b0 : Value} : spl (a0 :: a1 :: a2 :: a3 :: t4.map u8) 0 (b0 :: []) = b0 :: a1 :: a2 :: a3 :: t4.map u8 := spl_0
theorem q_spl_c4b32_1_c1 {a0 a1 a2 a3 : Value} {t4 : List UInt8} {b0 : Value} : spl (a0 :: a1 :: a2 :: a3 :: t4.map u8) 1 (b0 :: []) = a0 :: b0 :: a2 :: a3 :: t4.map u8 := (spl_c (o := 0) spl_0)
theorem q_spl_c4b32_2_c1 {a0 a1 a2 a3 : Value} {t4 : List UInt8} {b0 : Value} : spl (a0 :: a1 :: a2 :: a3 :: t4.map u8) 2 (b0 :: []) = a0 :: a1 :: b0 :: a3 :: t4.map u8 := (spl_c (o := 1) (spl_c (o := 0) spl_0))
theorem z_call12 : callB Tryd.prog 12 = true := by kernel_rfl
theorem z_size25 : sizeB Tryd.prog 25 = some 36 := by kernel_rfl
theorem q_one_c4b32 {a0 a1 a2 a3 : Value} {t4 : List UInt8} (o0 : a0.oneCell' = true) (o1 : a1.oneCell' = true) (o2 : a2.oneCell' = true) (o3 : a3.oneCell' = true) : (a0 :: a1 :: a2 :: a3 :: t4.map u8).all (·.oneCell') = true := (one_c o0 (one_c o1 (one_c o2 (one_c o3 (one_u8 _)))))
theorem q_spl_c4b32_0_c4b32 {a0 a1 a2 a3 : Value} {t4 : List UInt8} {b0 b1 b2 b3 : Value} {s4 : List UInt8} (h4 : t4.length = 32) (g4 : s4.length = 32) : spl (a0 :: a1 :: a2 :: a3 :: t4.map u8) 0 (b0 :: b1 :: b2 :: b3 :: s4.map u8) = b0 :: b1 :: b2 :: b3 :: s4.map u8 := (spl_a (z := 36) (len_c (n := 35) (len_c (n := 34) (len_c (n := 33) (len_c (n := 32) (len_e (k := 32) h4))))) (len_c (n := 35) (len_c (n := 34) (len_c (n := 33) (len_c (n := 32) (len_e (k := 32) g4))))))
theorem z_agg25 : aggB Tryd.prog 25 = some true := by kernel_rfl
theorem q_ld_c4b32_0_36 {a0 a1 a2 a3 : Value} {t4 : List UInt8} (h4 : t4.length = 32) : ((a0 :: a1 :: a2 :: a3 :: t4.map u8).drop 0).take 36 = a0 :: a1 :: a2 :: a3 :: t4.map u8 := (ld_a (len_c (n := 35) (len_c (n := 34) (len_c (n := 33) (len_c (n := 32) (len_e (k := 32) h4))))))
theorem z_call10 : callB Tryd.prog 10 = true := by kernel_rfl
theorem z_call26 : callB Tryd.prog 26 = true := by kernel_rfl
theorem z_zeroN23 : zeroL Tryd.prog 23 = some ((List.replicate 32 (0 : UInt8)).map u8) := by kernel_rfl
theorem z_size5 : sizeB Tryd.prog 5 = some 1 := by kernel_rfl
theorem z_call19 : callB Tryd.prog 19 = true := by kernel_rfl
theorem z_zeroN35 : zeroL Tryd.prog 35 = some ((.int .i64 0 :: (.int .i64 0 :: (.int .i64 0 :: (.string ⟨#[]⟩ :: ((List.replicate 32 (0 : UInt8)).map u8 ++ (List.replicate 32 (0 : UInt8)).map u8)))))) := by kernel_rfl
theorem z_size35 : sizeB Tryd.prog 35 = some 68 := by kernel_rfl
theorem q_one_c4b32b32 {a0 a1 a2 a3 : Value} {t4 t5 : List UInt8} (o0 : a0.oneCell' = true) (o1 : a1.oneCell' = true) (o2 : a2.oneCell' = true) (o3 : a3.oneCell' = true) : (a0 :: a1 :: a2 :: a3 :: (t4.map u8 ++ (t5.map u8))).all (·.oneCell') = true := (one_c o0 (one_c o1 (one_c o2 (one_c o3 (one_b (one_u8 _))))))
theorem q_len_c4b32b32 {a0 a1 a2 a3 : Value} {t4 t5 : List UInt8} (h4 : t4.length = 32) (h5 : t5.length = 32) : (a0 :: a1 :: a2 :: a3 :: (t4.map u8 ++ (t5.map u8))).length = 68 := (len_c (n := 67) (len_c (n := 66) (len_c (n := 65) (len_c (n := 64) (len_b (k := 32) (n := 32) h4 (len_e (k := 32) h5))))))
theorem q_spl_c4b32b32_0_c4b32b32 {a0 a1 a2 a3 : Value} {t4 t5 : List UInt8} {b0 b1 b2 b3 : Value} {s4 s5 : List UInt8} (h4 : t4.length = 32) (h5 : t5.length = 32) (g4 : s4.length = 32) (g5 : s5.length = 32) : spl (a0 :: a1 :: a2 :: a3 :: (t4.map u8 ++ (t5.map u8))) 0 (b0 :: b1 :: b2 :: b3 :: (s4.map u8 ++ (s5.map u8))) = b0 :: b1 :: b2 :: b3 :: (s4.map u8 ++ (s5.map u8)) := (spl_a (z := 68) (len_c (n := 67) (len_c (n := 66) (len_c (n := 65) (len_c (n := 64) (len_b (k := 32) (n := 32) h4 (len_e (k := 32) h5)))))) (len_c (n := 67) (len_c (n := 66) (len_c (n := 65) (len_c (n := 64) (len_b (k := 32) (n := 32) g4 (len_e (k := 32) g5)))))))
theorem z_call15 : callB Tryd.prog 15 = true := by kernel_rfl
theorem z_field35_5 : fieldB Tryd.prog 35 5 = some 36 := by kernel_rfl
theorem z_agg23 : aggB Tryd.prog 23 = some true := by kernel_rfl
theorem z_size23 : sizeB Tryd.prog 23 = some 32 := by kernel_rfl
theorem q_ld_c4b32b32_36_32 {a0 a1 a2 a3 : Value} {t4 t5 : List UInt8} (h4 : t4.length = 32) (h5 : t5.length = 32) : ((a0 :: a1 :: a2 :: a3 :: (t4.map u8 ++ (t5.map u8))).drop 36).take 32 = t5.map u8 := (ld_c (o := 35) (ld_c (o := 34) (ld_c (o := 33) (ld_c (o := 32) (ld_b (k := 32) (o := 0) h4 rfl (ld_a (len_e (k := 32) h5)))))))
theorem q_len_b32 {t0 : List UInt8} (h0 : t0.length = 32) : (t0.map u8).length = 32 := (len_e (k := 32) h0)

set_option maxRecDepth 100000 in
set_option maxHeartbeats 2000000 in
theorem awake5 {w : World} (hG : Glob 0 Sha.K w) : Calls Tryd.prog 14 #[] w (Gives (.bool true) [] w) := by
  obtain ⟨sb, hsb⟩ : ∃ x, x = Note.signBid Note.b0 := ⟨_, rfl⟩
  obtain ⟨lk, hlk⟩ : ∃ x, x = Note.link Note.Z 0 1 5 [97] := ⟨_, rfl⟩
  have hs2 : sb.2 = 0 := by rw [hsb]; exact Note.aw_sign
  have hsl : sb.1.tag.length = 32 := by rw [hsb]; exact Note.sb_len
  have hsw : (Note.writeBid sb.1).2 = 0 := by rw [hsb]; exact Note.aw_write
  have hsr : Note.readBid (Note.writeBid sb.1).1 = (sb.1, 0) := by rw [hsb]; exact Note.aw_read
  have hsc : Note.checkBid sb.1 = 0 := by rw [hsb]; exact Note.aw_check
  have wfs : Note.Bid.Wf sb.1 := by rw [hsb]; exact Note.bid_wf Note.sb_ok Note.sb_len
  have hl2 : lk.2 = 0 := by rw [hlk, Note.aw_link]
  have hlp : lk.1.prev.length = 32 := by rw [hlk]; exact Note.linkF_prev _ rfl
  have hlh : lk.1.hash.length = 32 := by rw [hlk]; exact Note.linkF_hash _ _ _ _ _
  have hln : lk.1.hash ≠ List.replicate 32 0 := by rw [hlk]; exact Note.aw_hash
  have hrl : (Note.readBid (Note.writeBid sb.1).1).1.tag.length = 32 := Note.readBid_len
  have hsg : ∀ {w : World}, Glob 0 Sha.K w → Calls Tryd.prog 12 #[.agg (Note.Bid.cells Note.b0).toArray] w (Gives (.tuple #[.agg (Note.Bid.cells sb.1).toArray, .int .i64 sb.2]) [] w) := fun hG => by rw [hsb]; exact nsign Note.b0 (Note.bid_wf Note.b0_ok rfl) hG
  have hlg : ∀ {w : World}, Glob 0 Sha.K w → Calls Tryd.prog 19 #[.agg (Note.Z.map u8).toArray, .int .i64 0, .int .i64 1, .int .i64 5, str [97]] w (Gives (.tuple #[.agg (Note.Receipt.cells lk.1).toArray, .int .i64 lk.2]) [] w) := fun hG => by rw [hlk]; exact nlinkF Note.Z rfl 0 1 5 (by omega) (by omega) (by omega) [97] (by simp) hG
  clear hsb hlk
  have lz32 : (List.replicate 32 (0 : UInt8)).length = 32 := List.length_replicate
  refine enterL (args := []) Tryd.func14 rfl rfl (l := []) (Sep.refl _) ?_
  intro a0 H0
  refine wp_seq ?_
  refine reg ?_
  refine plain (y_assign rfl rfl) rfl rfl rfl H0 ?_
  clear H0; intro a1 H1
  refine fin ?_
  refine then_n ?_
  refine wp_seq ?_
  refine reg ?_
  refine plain (y_build rfl z_zeroN25 z_places25 rfl (lay_1 (off := 0) (n := 36) rfl (q_len_c4b32 (by assumption)) (by decide) q_spl_c4b32_0_c1 (lay_1 (off := 1) (n := 36) rfl (q_len_c4b32 (by assumption)) (by decide) q_spl_c4b32_1_c1 (lay_1 (off := 2) (n := 36) rfl (q_len_c4b32 (by assumption)) (by decide) q_spl_c4b32_2_c1 lay_n (by rfl)) (by rfl)) (by rfl))) rfl rfl rfl H1 ?_
  clear H1; intro a2 H2
  refine st_callg rfl z_call12 rfl rfl rfl rfl H2 (hsg (hG.frm H2.sep.frm (by simp))) ?_
  clear H2; intro a3 wx3 H3
  refine plain (y_move rfl rfl) rfl rfl rfl H3 ?_
  clear H3; intro a4 H4
  refine plain (y_extract rfl rfl rfl) rfl rfl rfl H4 ?_
  clear H4; intro a5 H5
  refine plain (y_extract rfl rfl rfl) rfl rfl rfl H5 ?_
  clear H5; intro a6 H6
  refine st_alloc rfl z_zeroN25 rfl rfl rfl H6 ?_
  clear H6; intro b7 a7 wx7 H7
  refine st_storeN rfl z_size25 rfl rfl (agg_cells _) (by repeat (first | exact Uh | apply Ut)) (q_one_c4b32 rfl rfl rfl rfl) (q_len_c4b32 (by assumption)) (q_len_c4b32 (by assumption)) (q_spl_c4b32_0_c4b32 (by assumption) (by assumption)) (by decide) rfl rfl H7 ?_
  clear H7; intro wx8 H8
  refine plain (y_assign rfl rfl) rfl rfl rfl H8 ?_
  clear H8; intro a9 H9
  refine fin ?_
  refine then_n ?_
  refine wp_seq ?_
  refine reg ?_
  refine plain (y_loadAB rfl z_agg25 z_size25 rfl (by repeat (first | exact Mh | apply Mt)) (q_ld_c4b32_0_36 (by assumption)) (q_len_c4b32 (by assumption))) rfl rfl rfl H9 ?_
  clear H9; intro a10 H10
  refine st_callg rfl z_call10 rfl rfl rfl rfl H10 (nwbid sb.1 wfs _) ?_
  clear H10; intro a11 wx11 H11
  refine plain (y_move rfl rfl) rfl rfl rfl H11 ?_
  clear H11; intro a12 H12
  refine plain (y_extract rfl rfl rfl) rfl rfl rfl H12 ?_
  clear H12; intro a13 H13
  refine plain (y_extract rfl rfl rfl) rfl rfl rfl H13 ?_
  clear H13; intro a14 H14
  refine plain (y_assign rfl rfl) rfl rfl rfl H14 ?_
  clear H14; intro a15 H15
  refine plain (y_assign rfl rfl) rfl rfl rfl H15 ?_
  clear H15; intro a16 H16
  refine fin ?_
  refine then_n ?_
  refine wp_seq ?_
  refine reg ?_
  refine plain (y_move rfl rfl) rfl rfl rfl H16 ?_
  clear H16; intro a17 H17
  refine st_callg rfl z_call26 rfl rfl rfl rfl H17 (nreadbid (Note.writeBid sb.1).1 (by have := Note.wbid_len (b := sb.1); omega)) ?_
  clear H17; intro a18 wx18 H18
  refine plain (y_move rfl rfl) rfl rfl rfl H18 ?_
  clear H18; intro a19 H19
  refine plain (y_extract rfl rfl rfl) rfl rfl rfl H19 ?_
  clear H19; intro a20 H20
  refine plain (y_extract rfl rfl rfl) rfl rfl rfl H20 ?_
  clear H20; intro a21 H21
  refine st_alloc rfl z_zeroN25 rfl rfl rfl H21 ?_
  clear H21; intro b22 a22 wx22 H22
  refine st_storeN rfl z_size25 rfl rfl (agg_cells _) (by repeat (first | exact Uh | apply Ut)) (q_one_c4b32 rfl rfl rfl rfl) (q_len_c4b32 (by assumption)) (q_len_c4b32 (by assumption)) (q_spl_c4b32_0_c4b32 (by assumption) (by assumption)) (by decide) rfl rfl H22 ?_
  clear H22; intro wx23 H23
  refine plain (y_assign rfl rfl) rfl rfl rfl H23 ?_
  clear H23; intro a24 H24
  refine fin ?_
  refine then_n ?_
  refine wp_seq ?_
  refine reg ?_
  refine plain (y_buildA rfl z_zeroN23 Tryd.underlying23 z_size5 rfl lay_n) rfl rfl rfl H24 ?_
  clear H24; intro a25 H25
  refine st_callg rfl z_call19 rfl rfl rfl rfl H25 (hlg (hG.frm H25.sep.frm (by simp))) ?_
  clear H25; intro a26 wx26 H26
  refine plain (y_move rfl rfl) rfl rfl rfl H26 ?_
  clear H26; intro a27 H27
  refine plain (y_extract rfl rfl rfl) rfl rfl rfl H27 ?_
  clear H27; intro a28 H28
  refine plain (y_extract rfl rfl rfl) rfl rfl rfl H28 ?_
  clear H28; intro a29 H29
  refine st_alloc rfl z_zeroN35 rfl rfl rfl H29 ?_
  clear H29; intro b30 a30 wx30 H30
  refine st_storeN rfl z_size35 rfl rfl (agg_cells _) (by repeat (first | exact Uh | apply Ut)) (q_one_c4b32b32 rfl rfl rfl rfl) (q_len_c4b32b32 (by assumption) (by assumption)) (q_len_c4b32b32 (by assumption) (by assumption)) (q_spl_c4b32b32_0_c4b32b32 (by assumption) (by assumption) (by assumption) (by assumption)) (by decide) rfl rfl H30 ?_
  clear H30; intro wx31 H31
  refine plain (y_assign rfl rfl) rfl rfl rfl H31 ?_
  clear H31; intro a32 H32
  refine fin ?_
  refine then_n ?_
  refine wp_seq ?_
  refine reg ?_
  refine plain (y_move rfl rfl) rfl rfl rfl H32 ?_
  clear H32; intro a33 H33
  refine plain (y_eql rfl rfl rfl) rfl rfl rfl H33 ?_
  clear H33; intro a34 H34
  refine plain (y_move rfl rfl) rfl rfl rfl H34 ?_
  clear H34; intro a35 H35
  have H37 := H35.know (d := 31) (v := .bool true) rfl (congrArg Value.bool (decide_eq_true (hs2)))
  clear H35
  refine plain (y_move rfl rfl) rfl rfl rfl H37 ?_
  clear H37; intro a38 H38
  refine plain (y_eql rfl rfl rfl) rfl rfl rfl H38 ?_
  clear H38; intro a39 H39
  refine plain (y_pick_t rfl rfl rfl) rfl rfl rfl H39 ?_
  clear H39; intro a40 H40
  refine plain (y_move rfl rfl) rfl rfl rfl H40 ?_
  clear H40; intro a41 H41
  have H43 := H41.know (d := 35) (v := .bool true) rfl (congrArg Value.bool (decide_eq_true (hsw)))
  clear H41
  refine plain (y_move rfl rfl) rfl rfl rfl H43 ?_
  clear H43; intro a44 H44
  refine plain (y_eql rfl rfl rfl) rfl rfl rfl H44 ?_
  clear H44; intro a45 H45
  refine plain (y_pick_t rfl rfl rfl) rfl rfl rfl H45 ?_
  clear H45; intro a46 H46
  refine plain (y_move rfl rfl) rfl rfl rfl H46 ?_
  clear H46; intro a47 H47
  have H49 := H47.know (d := 39) (v := .bool true) rfl (congrArg Value.bool (decide_eq_true (by rw [hsr])))
  clear H47
  refine plain (y_loadAB rfl z_agg25 z_size25 rfl (by repeat (first | exact Mh | apply Mt)) (q_ld_c4b32_0_36 (by assumption)) (q_len_c4b32 (by assumption))) rfl rfl rfl H49 ?_
  clear H49; intro a50 H50
  refine plain (y_loadAB rfl z_agg25 z_size25 rfl (by repeat (first | exact Mh | apply Mt)) (q_ld_c4b32_0_36 (by assumption)) (q_len_c4b32 (by assumption))) rfl rfl rfl H50 ?_
  clear H50; intro a51 H51
  refine plain (y_teql rfl (by kernel_rfl) rfl rfl (eqr_Bid sb.1 (Note.readBid (Note.writeBid sb.1).1).1 hsl hrl)) rfl rfl rfl H51 ?_
  clear H51; intro a52 H52
  refine plain (y_pick_t rfl rfl rfl) rfl rfl rfl H52 ?_
  clear H52; intro a53 H53
  refine plain (y_move rfl rfl) rfl rfl rfl H53 ?_
  clear H53; intro a54 H54
  have H56 := H54.know (d := 44) (v := .bool true) rfl (congrArg Value.bool (decide_eq_true (by rw [hsr])))
  clear H54
  refine plain (y_loadAB rfl z_agg25 z_size25 rfl (by repeat (first | exact Mh | apply Mt)) (q_ld_c4b32_0_36 (by assumption)) (q_len_c4b32 (by assumption))) rfl rfl rfl H56 ?_
  clear H56; intro a57 H57
  refine st_callg rfl z_call15 rfl rfl rfl rfl H57 (ncheck sb.1 wfs (hG.frm H57.sep.frm (by simp))) ?_
  clear H57; intro a58 wx58 H58
  refine plain (y_eql rfl rfl rfl) rfl rfl rfl H58 ?_
  clear H58; intro a59 H59
  refine plain (y_pick_t rfl rfl rfl) rfl rfl rfl H59 ?_
  clear H59; intro a60 H60
  refine plain (y_move rfl rfl) rfl rfl rfl H60 ?_
  clear H60; intro a61 H61
  have H63 := H61.know (d := 49) (v := .bool true) rfl (congrArg Value.bool (decide_eq_true (hsc)))
  clear H61
  refine plain (y_move rfl rfl) rfl rfl rfl H63 ?_
  clear H63; intro a64 H64
  refine plain (y_eql rfl rfl rfl) rfl rfl rfl H64 ?_
  clear H64; intro a65 H65
  refine plain (y_pick_t rfl rfl rfl) rfl rfl rfl H65 ?_
  clear H65; intro a66 H66
  refine plain (y_move rfl rfl) rfl rfl rfl H66 ?_
  clear H66; intro a67 H67
  have H69 := H67.know (d := 53) (v := .bool true) rfl (congrArg Value.bool (decide_eq_true (hl2)))
  clear H67
  refine plain (y_fieldB rfl z_field35_5 rfl (by first | (simp only [Nat.zero_add, Nat.add_zero, Nat.reduceAdd]; rfl) | rfl)) rfl rfl rfl H69 ?_
  clear H69; intro a70 H70
  refine plain (y_loadAB rfl z_agg23 z_size23 rfl (by repeat (first | exact Mh | apply Mt)) (q_ld_c4b32b32_36_32 (by assumption) (by assumption)) (q_len_b32 (by assumption))) rfl rfl rfl H70 ?_
  clear H70; intro a71 H71
  refine plain (y_buildA rfl z_zeroN23 Tryd.underlying23 z_size5 rfl lay_n) rfl rfl rfl H71 ?_
  clear H71; intro a72 H72
  refine plain (y_hneq rfl Tryd.eqGuardType23 Tryd.underlying23 Tryd.underlying5 z_size5 rfl rfl (by assumption) (by assumption)) rfl rfl rfl H72 ?_
  clear H72; intro a73 H73
  refine plain (y_pick_t rfl rfl rfl) rfl rfl rfl H73 ?_
  clear H73; intro a74 H74
  refine plain (y_assign rfl rfl) rfl rfl rfl H74 ?_
  clear H74; intro a75 H75
  refine fin ?_
  refine then_n ?_
  refine wp_ret ?_
  -- return 1
  refine ret1 rfl H75 rfl ?_
  exact ⟨_, [], rfl, ⟨congrArg Value.bool (decide_eq_true hln), rfl⟩, H75.sep.sub (List.nil_sublist _)⟩

end Go.Proofs.YtnnhnnhdoipbaaaDoor.N_Aw

set_option linter.unusedVariables false
set_option linter.unusedSimpArgs false
namespace Go.Proofs.YtnnhnnhdoipbaaaDoor.N_L4
open Go.Sx Go.RowKit Go.Proofs.YtnnhnnhdoipbaaaDoor.N_Block Go.Proofs.YtnnhnnhdoipbaaaDoor.N_Sum Go.Proofs.YtnnhnnhdoipbaaaDoor.N_Ref Go.Proofs.YtnnhnnhdoipbaaaDoor.N_RSum Go.Proofs.YtnnhnnhdoipbaaaDoor.N_Leaf Go.Proofs.YtnnhnnhdoipbaaaDoor.N_Num Go.Proofs.YtnnhnnhdoipbaaaDoor.N_Key Go.Proofs.YtnnhnnhdoipbaaaDoor.N_Ref Go.Proofs.YtnnhnnhdoipbaaaDoor.N_RSum Go.Proofs.YtnnhnnhdoipbaaaDoor.N_Tag Go.Proofs.YtnnhnnhdoipbaaaDoor.N_Read Go.Proofs.YtnnhnnhdoipbaaaDoor.N_Lay Go.Proofs.YtnnhnnhdoipbaaaDoor.N_Eq Go.Proofs.YtnnhnnhdoipbaaaDoor.N_Ref0 Go.Proofs.YtnnhnnhdoipbaaaDoor.N_Rec Go.Proofs.YtnnhnnhdoipbaaaDoor.N_RRec Go.Proofs.YtnnhnnhdoipbaaaDoor.N_Fields Go.Proofs.YtnnhnnhdoipbaaaDoor.N_RBid Go.Proofs.YtnnhnnhdoipbaaaDoor.N_Sign Go.Proofs.YtnnhnnhdoipbaaaDoor.N_Item Go.Proofs.YtnnhnnhdoipbaaaDoor.N_WBatch Go.Proofs.YtnnhnnhdoipbaaaDoor.N_RBatch Go.Proofs.YtnnhnnhdoipbaaaDoor.N_RefB Go.Proofs.YtnnhnnhdoipbaaaDoor.N_RefI Go.Proofs.YtnnhnnhdoipbaaaDoor.N_RefR Go.Proofs.YtnnhnnhdoipbaaaDoor.N_RWBatch Go.Proofs.YtnnhnnhdoipbaaaDoor.N_RRBatch Go.Proofs.YtnnhnnhdoipbaaaDoor.N_Aw

theorem z_call14 : callB Tryd.prog 14 = true := by kernel_rfl
theorem z_field60_0 : fieldB Tryd.prog 60 0 = some 0 := by kernel_rfl
theorem z_agg25 : aggB Tryd.prog 25 = some true := by kernel_rfl
theorem z_size25 : sizeB Tryd.prog 25 = some 36 := by kernel_rfl
theorem q_ld_c4b32c4b32b32c8_0_36 {a0 a1 a2 a3 a5 a6 a7 a8 a11 a12 a13 a14 a15 a16 a17 a18 : Value} {t4 t9 t10 : List UInt8} (h4 : t4.length = 32) : ((a0 :: a1 :: a2 :: a3 :: (t4.map u8 ++ (a5 :: a6 :: a7 :: a8 :: (t9.map u8 ++ ((t10.map u8 ++ (a11 :: a12 :: a13 :: a14 :: a15 :: a16 :: a17 :: a18 :: []))))))).drop 0).take 36 = a0 :: a1 :: a2 :: a3 :: t4.map u8 := (ld_s (ld_s (ld_s (ld_s (ld_h h4)))))
theorem q_len_c4b32 {a0 a1 a2 a3 : Value} {t4 : List UInt8} (h4 : t4.length = 32) : (a0 :: a1 :: a2 :: a3 :: t4.map u8).length = 36 := (len_c (n := 35) (len_c (n := 34) (len_c (n := 33) (len_c (n := 32) (len_e (k := 32) h4)))))
theorem z_call10 : callB Tryd.prog 10 = true := by kernel_rfl
theorem z_call26 : callB Tryd.prog 26 = true := by kernel_rfl
theorem z_zeroN25 : zeroL Tryd.prog 25 = some ((.int .i64 0 :: (.int .i64 0 :: (.int .i64 0 :: (.int .i64 0 :: (List.replicate 32 (0 : UInt8)).map u8))))) := by kernel_rfl
theorem q_one_c4b32 {a0 a1 a2 a3 : Value} {t4 : List UInt8} (o0 : a0.oneCell' = true) (o1 : a1.oneCell' = true) (o2 : a2.oneCell' = true) (o3 : a3.oneCell' = true) : (a0 :: a1 :: a2 :: a3 :: t4.map u8).all (·.oneCell') = true := (one_c o0 (one_c o1 (one_c o2 (one_c o3 (one_u8 _)))))
theorem q_spl_c4b32_0_c4b32 {a0 a1 a2 a3 : Value} {t4 : List UInt8} {b0 b1 b2 b3 : Value} {s4 : List UInt8} (h4 : t4.length = 32) (g4 : s4.length = 32) : spl (a0 :: a1 :: a2 :: a3 :: t4.map u8) 0 (b0 :: b1 :: b2 :: b3 :: s4.map u8) = b0 :: b1 :: b2 :: b3 :: s4.map u8 := (spl_a (z := 36) (len_c (n := 35) (len_c (n := 34) (len_c (n := 33) (len_c (n := 32) (len_e (k := 32) h4))))) (len_c (n := 35) (len_c (n := 34) (len_c (n := 33) (len_c (n := 32) (len_e (k := 32) g4))))))
theorem q_ld_c4b32_0_36 {a0 a1 a2 a3 : Value} {t4 : List UInt8} (h4 : t4.length = 32) : ((a0 :: a1 :: a2 :: a3 :: t4.map u8).drop 0).take 36 = a0 :: a1 :: a2 :: a3 :: t4.map u8 := (ld_a (len_c (n := 35) (len_c (n := 34) (len_c (n := 33) (len_c (n := 32) (len_e (k := 32) h4))))))
theorem z_field60_1 : fieldB Tryd.prog 60 1 = some 36 := by kernel_rfl
theorem z_agg35 : aggB Tryd.prog 35 = some true := by kernel_rfl
theorem z_size35 : sizeB Tryd.prog 35 = some 68 := by kernel_rfl
theorem q_ld_c4b32c4b32b32c8_36_68 {a0 a1 a2 a3 a5 a6 a7 a8 a11 a12 a13 a14 a15 a16 a17 a18 : Value} {t4 t9 t10 : List UInt8} (h4 : t4.length = 32) (h9 : t9.length = 32) (h10 : t10.length = 32) : ((a0 :: a1 :: a2 :: a3 :: (t4.map u8 ++ (a5 :: a6 :: a7 :: a8 :: (t9.map u8 ++ ((t10.map u8 ++ (a11 :: a12 :: a13 :: a14 :: a15 :: a16 :: a17 :: a18 :: []))))))).drop 36).take 68 = a5 :: a6 :: a7 :: a8 :: (t9.map u8 ++ (t10.map u8)) := (ld_c (o := 35) (ld_c (o := 34) (ld_c (o := 33) (ld_c (o := 32) (ld_b (k := 32) (o := 0) h4 rfl (ld_s (ld_s (ld_s (ld_s (ld_t (k := 32) (n := 32) h9 rfl (ld_h h10)))))))))))
theorem q_len_c4b32b32 {a0 a1 a2 a3 : Value} {t4 t5 : List UInt8} (h4 : t4.length = 32) (h5 : t5.length = 32) : (a0 :: a1 :: a2 :: a3 :: (t4.map u8 ++ (t5.map u8))).length = 68 := (len_c (n := 67) (len_c (n := 66) (len_c (n := 65) (len_c (n := 64) (len_b (k := 32) (n := 32) h4 (len_e (k := 32) h5))))))
theorem z_call17 : callB Tryd.prog 17 = true := by kernel_rfl
theorem z_call25 : callB Tryd.prog 25 = true := by kernel_rfl
theorem z_zeroN35 : zeroL Tryd.prog 35 = some ((.int .i64 0 :: (.int .i64 0 :: (.int .i64 0 :: (.string ⟨#[]⟩ :: ((List.replicate 32 (0 : UInt8)).map u8 ++ (List.replicate 32 (0 : UInt8)).map u8)))))) := by kernel_rfl
theorem q_one_c4b32b32 {a0 a1 a2 a3 : Value} {t4 t5 : List UInt8} (o0 : a0.oneCell' = true) (o1 : a1.oneCell' = true) (o2 : a2.oneCell' = true) (o3 : a3.oneCell' = true) : (a0 :: a1 :: a2 :: a3 :: (t4.map u8 ++ (t5.map u8))).all (·.oneCell') = true := (one_c o0 (one_c o1 (one_c o2 (one_c o3 (one_b (one_u8 _))))))
theorem q_spl_c4b32b32_0_c4b32b32 {a0 a1 a2 a3 : Value} {t4 t5 : List UInt8} {b0 b1 b2 b3 : Value} {s4 s5 : List UInt8} (h4 : t4.length = 32) (h5 : t5.length = 32) (g4 : s4.length = 32) (g5 : s5.length = 32) : spl (a0 :: a1 :: a2 :: a3 :: (t4.map u8 ++ (t5.map u8))) 0 (b0 :: b1 :: b2 :: b3 :: (s4.map u8 ++ (s5.map u8))) = b0 :: b1 :: b2 :: b3 :: (s4.map u8 ++ (s5.map u8)) := (spl_a (z := 68) (len_c (n := 67) (len_c (n := 66) (len_c (n := 65) (len_c (n := 64) (len_b (k := 32) (n := 32) h4 (len_e (k := 32) h5)))))) (len_c (n := 67) (len_c (n := 66) (len_c (n := 65) (len_c (n := 64) (len_b (k := 32) (n := 32) g4 (len_e (k := 32) g5)))))))
theorem q_ld_c4b32b32_0_68 {a0 a1 a2 a3 : Value} {t4 t5 : List UInt8} (h4 : t4.length = 32) (h5 : t5.length = 32) : ((a0 :: a1 :: a2 :: a3 :: (t4.map u8 ++ (t5.map u8))).drop 0).take 68 = a0 :: a1 :: a2 :: a3 :: (t4.map u8 ++ (t5.map u8)) := (ld_a (len_c (n := 67) (len_c (n := 66) (len_c (n := 65) (len_c (n := 64) (len_b (k := 32) (n := 32) h4 (len_e (k := 32) h5)))))))
theorem z_field60_2 : fieldB Tryd.prog 60 2 = some 104 := by kernel_rfl
theorem z_agg42 : aggB Tryd.prog 42 = some true := by kernel_rfl
theorem z_size42 : sizeB Tryd.prog 42 = some 4 := by kernel_rfl
theorem q_ld_c4b32c4b32b32c8_104_4 {a0 a1 a2 a3 a5 a6 a7 a8 a11 a12 a13 a14 a15 a16 a17 a18 : Value} {t4 t9 t10 : List UInt8} (h4 : t4.length = 32) (h9 : t9.length = 32) (h10 : t10.length = 32) : ((a0 :: a1 :: a2 :: a3 :: (t4.map u8 ++ (a5 :: a6 :: a7 :: a8 :: (t9.map u8 ++ ((t10.map u8 ++ (a11 :: a12 :: a13 :: a14 :: a15 :: a16 :: a17 :: a18 :: []))))))).drop 104).take 4 = a11 :: a12 :: a13 :: a14 :: [] := (ld_c (o := 103) (ld_c (o := 102) (ld_c (o := 101) (ld_c (o := 100) (ld_b (k := 32) (o := 68) h4 rfl (ld_c (o := 67) (ld_c (o := 66) (ld_c (o := 65) (ld_c (o := 64) (ld_b (k := 32) (o := 32) h9 rfl (ld_b (k := 32) (o := 0) h10 rfl (ld_s (ld_s (ld_s (ld_s ld_z)))))))))))))))
theorem q_len_c4 {a0 a1 a2 a3 : Value} : (a0 :: a1 :: a2 :: a3 :: []).length = 4 := (len_c (n := 3) (len_c (n := 2) (len_c (n := 1) (len_c (n := 0) len_n))))
theorem z_call21 : callB Tryd.prog 21 = true := by kernel_rfl
theorem z_call29 : callB Tryd.prog 29 = true := by kernel_rfl
theorem z_zeroN42 : zeroL Tryd.prog 42 = some ((.int .i64 0 :: (.int .i64 0 :: (.int .i64 0 :: (.slice none 0 0 :: []))))) := by kernel_rfl
theorem q_one_c4 {a0 a1 a2 a3 : Value} (o0 : a0.oneCell' = true) (o1 : a1.oneCell' = true) (o2 : a2.oneCell' = true) (o3 : a3.oneCell' = true) : (a0 :: a1 :: a2 :: a3 :: []).all (·.oneCell') = true := (one_c o0 (one_c o1 (one_c o2 (one_c o3 one_n))))
theorem q_spl_c4_0_c4 {a0 a1 a2 a3 : Value} {b0 b1 b2 b3 : Value} : spl (a0 :: a1 :: a2 :: a3 :: []) 0 (b0 :: b1 :: b2 :: b3 :: []) = b0 :: b1 :: b2 :: b3 :: [] := (spl_a (z := 4) (len_c (n := 3) (len_c (n := 2) (len_c (n := 1) (len_c (n := 0) len_n)))) (len_c (n := 3) (len_c (n := 2) (len_c (n := 1) (len_c (n := 0) len_n)))))
theorem q_ld_c4_0_4 {a0 a1 a2 a3 : Value} : ((a0 :: a1 :: a2 :: a3 :: []).drop 0).take 4 = a0 :: a1 :: a2 :: a3 :: [] := (ld_a (len_c (n := 3) (len_c (n := 2) (len_c (n := 1) (len_c (n := 0) len_n)))))
theorem z_call33 : callB Tryd.prog 33 = true := by kernel_rfl
theorem z_field60_3 : fieldB Tryd.prog 60 3 = some 108 := by kernel_rfl
theorem z_agg46 : aggB Tryd.prog 46 = some true := by kernel_rfl
theorem z_size46 : sizeB Tryd.prog 46 = some 4 := by kernel_rfl
theorem q_ld_c4b32c4b32b32c8_108_4 {a0 a1 a2 a3 a5 a6 a7 a8 a11 a12 a13 a14 a15 a16 a17 a18 : Value} {t4 t9 t10 : List UInt8} (h4 : t4.length = 32) (h9 : t9.length = 32) (h10 : t10.length = 32) : ((a0 :: a1 :: a2 :: a3 :: (t4.map u8 ++ (a5 :: a6 :: a7 :: a8 :: (t9.map u8 ++ ((t10.map u8 ++ (a11 :: a12 :: a13 :: a14 :: a15 :: a16 :: a17 :: a18 :: []))))))).drop 108).take 4 = a15 :: a16 :: a17 :: a18 :: [] := (ld_c (o := 107) (ld_c (o := 106) (ld_c (o := 105) (ld_c (o := 104) (ld_b (k := 32) (o := 72) h4 rfl (ld_c (o := 71) (ld_c (o := 70) (ld_c (o := 69) (ld_c (o := 68) (ld_b (k := 32) (o := 36) h9 rfl (ld_b (k := 32) (o := 4) h10 rfl (ld_c (o := 3) (ld_c (o := 2) (ld_c (o := 1) (ld_c (o := 0) (ld_a (len_c (n := 3) (len_c (n := 2) (len_c (n := 1) (len_c (n := 0) len_n))))))))))))))))))))
theorem z_call23 : callB Tryd.prog 23 = true := by kernel_rfl
theorem z_call31 : callB Tryd.prog 31 = true := by kernel_rfl
theorem z_zeroN46 : zeroL Tryd.prog 46 = some ((.int .i64 0 :: (.int .i64 0 :: (.int .i64 0 :: (.string ⟨#[]⟩ :: []))))) := by kernel_rfl

set_option maxRecDepth 100000 in
set_option maxHeartbeats 4000000 in
theorem notesBack (x : Note.All) (s : List UInt8) (hs : s.length ≤ 140737488351232) {w : World} (wf : Note.All.Wf w x) (hG : Glob 0 Sha.K w) : Calls Tryd.prog 9 #[.agg (Note.All.cells x).toArray, str s] w (Gives (.bool true) [] w) := by
  have lz32 : (List.replicate 32 (0 : UInt8)).length = 32 := List.length_replicate
  have lz0 := wf.bid.tag
  have lz1 := wf.receipt.prev
  have lz2 := wf.receipt.hash
  refine enterL (args := [.agg (Note.All.cells x).toArray, str s]) Tryd.func9 rfl rfl (l := []) (Sep.refl _) ?_
  intro a0 H0
  refine wp_seq ?_
  refine reg ?_
  refine st_box rfl rfl (agg_cells _) rfl rfl rfl H0 ?_
  clear H0; intro b1 a1 wx1 H1
  refine plain (y_assign rfl rfl) rfl rfl rfl H1 ?_
  clear H1; intro a2 H2
  refine fin ?_
  refine then_n ?_
  refine wp_seq ?_
  refine wp_seq ?_
  refine reg ?_
  refine st_callg rfl z_call14 rfl rfl rfl rfl H2 (awake5 (hG.frm H2.sep.frm (by simp))) ?_
  clear H2; intro a3 wx3 H3
  refine plain (y_not rfl rfl) rfl rfl rfl H3 ?_
  clear H3; intro a4 H4
  refine fin ?_
  refine then_n ?_
  refine cnd_f H4 rfl ?_
  refine wp_skip ?_
  refine then_n ?_
  refine wp_seq ?_
  refine wp_seq ?_
  refine reg ?_
  refine plain (y_fieldB rfl z_field60_0 rfl (by first | (simp only [Nat.zero_add, Nat.add_zero, Nat.reduceAdd]; rfl) | rfl)) rfl rfl rfl H4 ?_
  clear H4; intro a6 H6
  refine plain (y_loadAB rfl z_agg25 z_size25 rfl (by repeat (first | exact Mh | apply Mt)) (q_ld_c4b32c4b32b32c8_0_36 (by first | assumption | exact Note.readBid_len | exact Note.readReceipt_len.1 | exact Note.readReceipt_len.2)) (q_len_c4b32 (by first | assumption | exact Note.readBid_len | exact Note.readReceipt_len.1 | exact Note.readReceipt_len.2))) rfl rfl rfl H6 ?_
  clear H6; intro a7 H7
  refine st_callg rfl z_call10 rfl rfl rfl rfl H7 (nwbid x.bid wf.bid _) ?_
  clear H7; intro a8 wx8 H8
  refine plain (y_move rfl rfl) rfl rfl rfl H8 ?_
  clear H8; intro a9 H9
  refine plain (y_extract rfl rfl rfl) rfl rfl rfl H9 ?_
  clear H9; intro a10 H10
  refine plain (y_extract rfl rfl rfl) rfl rfl rfl H10 ?_
  clear H10; intro a11 H11
  refine plain (y_assign rfl rfl) rfl rfl rfl H11 ?_
  clear H11; intro a12 H12
  refine plain (y_assign rfl rfl) rfl rfl rfl H12 ?_
  clear H12; intro a13 H13
  refine fin ?_
  refine then_n ?_
  refine wp_seq ?_
  refine reg ?_
  refine plain (y_move rfl rfl) rfl rfl rfl H13 ?_
  clear H13; intro a14 H14
  refine plain (y_eql rfl rfl rfl) rfl rfl rfl H14 ?_
  clear H14; intro a15 H15
  refine fin ?_
  refine then_n ?_
  refine wp_cut (fun aC wC => St Tryd.f9.ntmps [] w ([(1, str s), (2, .pointer (some ⟨b1, 0, none⟩))]) ([It.blk b1 60 (Note.All.cells x)]) aC wC) ?_ ?_
  · skip
    refine cnd H15 rfl (fun hc16 => ?_) (fun hc16 => ?_) -- cond 2
    · skip
      try simp only [decide_eq_true_eq, decide_eq_false_iff_not, Bool.not_eq_true', Bool.not_eq_false', Bool.and_eq_true, Bool.not_eq_true, Bool.not_eq_false] at hc16
      have hz := hc16
      have hrr := Note.readBid_write wf.bid.tag hz
      refine wp_seq ?_
      refine reg ?_
      refine plain (y_move rfl rfl) rfl rfl rfl H15 ?_
      clear H15; intro a17 H17
      refine st_callg rfl z_call26 rfl rfl rfl rfl H17 (nreadbid (Note.writeBid x.bid).1 (by have := Note.wbid_len (b := x.bid); omega)) ?_
      clear H17; intro a18 wx18 H18
      refine plain (y_move rfl rfl) rfl rfl rfl H18 ?_
      clear H18; intro a19 H19
      refine plain (y_extract rfl rfl rfl) rfl rfl rfl H19 ?_
      clear H19; intro a20 H20
      refine plain (y_extract rfl rfl rfl) rfl rfl rfl H20 ?_
      clear H20; intro a21 H21
      refine st_alloc rfl z_zeroN25 rfl rfl rfl H21 ?_
      clear H21; intro b22 a22 wx22 H22
      refine st_storeN rfl z_size25 rfl rfl (agg_cells _) (by repeat (first | exact Uh | apply Ut)) (q_one_c4b32 rfl rfl rfl rfl) (q_len_c4b32 (by first | assumption | exact Note.readBid_len | exact Note.readReceipt_len.1 | exact Note.readReceipt_len.2)) (q_len_c4b32 (by first | assumption | exact Note.readBid_len | exact Note.readReceipt_len.1 | exact Note.readReceipt_len.2)) (q_spl_c4b32_0_c4b32 (by first | assumption | exact Note.readBid_len | exact Note.readReceipt_len.1 | exact Note.readReceipt_len.2) (by first | assumption | exact Note.readBid_len | exact Note.readReceipt_len.1 | exact Note.readReceipt_len.2)) (by decide) rfl rfl H22 ?_
      clear H22; intro wx23 H23
      refine plain (y_assign rfl rfl) rfl rfl rfl H23 ?_
      clear H23; intro a24 H24
      refine fin ?_
      refine then_n ?_
      refine wp_seq ?_
      refine reg ?_
      refine plain (y_move rfl rfl) rfl rfl rfl H24 ?_
      clear H24; intro a25 H25
      refine plain (y_neq rfl rfl rfl) rfl rfl rfl H25 ?_
      clear H25; intro a26 H26
      refine plain (y_move rfl rfl) rfl rfl rfl H26 ?_
      clear H26; intro a27 H27
      have H29 := H27.know (d := 46) (v := .bool false) rfl (congrArg Value.bool (decide_eq_false (fun h => h (by rw [hrr]))))
      clear H27
      refine plain (y_loadAB rfl z_agg25 z_size25 rfl (by repeat (first | exact Mh | apply Mt)) (q_ld_c4b32_0_36 (by first | assumption | exact Note.readBid_len | exact Note.readReceipt_len.1 | exact Note.readReceipt_len.2)) (q_len_c4b32 (by first | assumption | exact Note.readBid_len | exact Note.readReceipt_len.1 | exact Note.readReceipt_len.2))) rfl rfl rfl H29 ?_
      clear H29; intro a30 H30
      refine plain (y_fieldB rfl z_field60_0 rfl (by first | (simp only [Nat.zero_add, Nat.add_zero, Nat.reduceAdd]; rfl) | rfl)) rfl rfl rfl H30 ?_
      clear H30; intro a31 H31
      refine plain (y_loadAB rfl z_agg25 z_size25 rfl (by repeat (first | exact Mh | apply Mt)) (q_ld_c4b32c4b32b32c8_0_36 (by first | assumption | exact Note.readBid_len | exact Note.readReceipt_len.1 | exact Note.readReceipt_len.2)) (q_len_c4b32 (by first | assumption | exact Note.readBid_len | exact Note.readReceipt_len.1 | exact Note.readReceipt_len.2))) rfl rfl rfl H31 ?_
      clear H31; intro a32 H32
      refine plain (y_tneq rfl (by kernel_rfl) rfl rfl (eqr_Bid (Note.readBid (Note.writeBid x.bid).1).1 x.bid Note.readBid_len wf.bid.tag)) rfl rfl rfl H32 ?_
      clear H32; intro a33 H33
      refine plain (y_pick_f rfl rfl rfl) rfl rfl rfl H33 ?_
      clear H33; intro a34 H34
      refine fin ?_
      refine then_n ?_
      refine cnd H34 rfl (fun hc35 => ?_) (fun hc35 => ?_) -- cond 3
      · (try simp only [decide_eq_true_eq, decide_eq_false_iff_not, Bool.not_eq_true', Bool.not_eq_false', Bool.and_eq_true, Bool.not_eq_true, Bool.not_eq_false] at hc35); (rw [hrr] at hc35; exact absurd rfl hc35)
      · skip
        try simp only [decide_eq_true_eq, decide_eq_false_iff_not, Bool.not_eq_true', Bool.not_eq_false', Bool.and_eq_true, Bool.not_eq_true, Bool.not_eq_false] at hc35
        refine wp_skip ?_
        refine cut_n ?_
        exact (H34.drop (by first | exact S0 | exact S1 | repeat (first | exact S1 | exact S0 | apply S2 | apply S3))).weak ⟨rfl, rfl, trivial⟩ rfl
    · skip
      try simp only [decide_eq_true_eq, decide_eq_false_iff_not, Bool.not_eq_true', Bool.not_eq_false', Bool.and_eq_true, Bool.not_eq_true, Bool.not_eq_false] at hc16
      refine wp_skip ?_
      refine cut_n ?_
      exact (H15.drop (by first | exact S0 | exact S1 | repeat (first | exact S1 | exact S0 | apply S2 | apply S3))).weak ⟨rfl, rfl, trivial⟩ rfl
  · clear H15; intro a36 wx36 hI36
    have H36 := hI36
    refine then_n ?_
    refine wp_seq ?_
    refine wp_seq ?_
    refine reg ?_
    refine plain (y_fieldB rfl z_field60_1 rfl (by first | (simp only [Nat.zero_add, Nat.add_zero, Nat.reduceAdd]; rfl) | rfl)) rfl rfl rfl H36 ?_
    clear H36; intro a37 H37
    refine plain (y_loadAB rfl z_agg35 z_size35 rfl (by repeat (first | exact Mh | apply Mt)) (q_ld_c4b32c4b32b32c8_36_68 (by first | assumption | exact Note.readBid_len | exact Note.readReceipt_len.1 | exact Note.readReceipt_len.2) (by first | assumption | exact Note.readBid_len | exact Note.readReceipt_len.1 | exact Note.readReceipt_len.2) (by first | assumption | exact Note.readBid_len | exact Note.readReceipt_len.1 | exact Note.readReceipt_len.2)) (q_len_c4b32b32 (by first | assumption | exact Note.readBid_len | exact Note.readReceipt_len.1 | exact Note.readReceipt_len.2) (by first | assumption | exact Note.readBid_len | exact Note.readReceipt_len.1 | exact Note.readReceipt_len.2))) rfl rfl rfl H37 ?_
    clear H37; intro a38 H38
    refine st_callg rfl z_call17 rfl rfl rfl rfl H38 (nwrec x.receipt wf.receipt (hG.frm H38.sep.frm (by simp))) ?_
    clear H38; intro a39 wx39 H39
    refine plain (y_move rfl rfl) rfl rfl rfl H39 ?_
    clear H39; intro a40 H40
    refine plain (y_extract rfl rfl rfl) rfl rfl rfl H40 ?_
    clear H40; intro a41 H41
    refine plain (y_extract rfl rfl rfl) rfl rfl rfl H41 ?_
    clear H41; intro a42 H42
    refine plain (y_assign rfl rfl) rfl rfl rfl H42 ?_
    clear H42; intro a43 H43
    refine plain (y_assign rfl rfl) rfl rfl rfl H43 ?_
    clear H43; intro a44 H44
    refine fin ?_
    refine then_n ?_
    refine wp_seq ?_
    refine reg ?_
    refine plain (y_move rfl rfl) rfl rfl rfl H44 ?_
    clear H44; intro a45 H45
    refine plain (y_eql rfl rfl rfl) rfl rfl rfl H45 ?_
    clear H45; intro a46 H46
    refine fin ?_
    refine then_n ?_
    refine wp_cut (fun aC wC => St Tryd.f9.ntmps [] w ([(1, str s), (2, .pointer (some ⟨b1, 0, none⟩))]) ([It.blk b1 60 (Note.All.cells x)]) aC wC) ?_ ?_
    · skip
      refine cnd H46 rfl (fun hc47 => ?_) (fun hc47 => ?_) -- cond 4
      · skip
        try simp only [decide_eq_true_eq, decide_eq_false_iff_not, Bool.not_eq_true', Bool.not_eq_false', Bool.and_eq_true, Bool.not_eq_true, Bool.not_eq_false] at hc47
        have hz := hc47
        have hrr := Note.readReceipt_write wf.receipt.prev wf.receipt.hash hz
        refine wp_seq ?_
        refine reg ?_
        refine plain (y_move rfl rfl) rfl rfl rfl H46 ?_
        clear H46; intro a48 H48
        refine st_callg rfl z_call25 rfl rfl rfl rfl H48 (nreadrec (Note.writeReceipt x.receipt).1 (by have := Note.wrec_len (r := x.receipt); omega) (hG.frm H48.sep.frm (by simp))) ?_
        clear H48; intro a49 wx49 H49
        refine plain (y_move rfl rfl) rfl rfl rfl H49 ?_
        clear H49; intro a50 H50
        refine plain (y_extract rfl rfl rfl) rfl rfl rfl H50 ?_
        clear H50; intro a51 H51
        refine plain (y_extract rfl rfl rfl) rfl rfl rfl H51 ?_
        clear H51; intro a52 H52
        refine st_alloc rfl z_zeroN35 rfl rfl rfl H52 ?_
        clear H52; intro b53 a53 wx53 H53
        refine st_storeN rfl z_size35 rfl rfl (agg_cells _) (by repeat (first | exact Uh | apply Ut)) (q_one_c4b32b32 rfl rfl rfl rfl) (q_len_c4b32b32 (by first | assumption | exact Note.readBid_len | exact Note.readReceipt_len.1 | exact Note.readReceipt_len.2) (by first | assumption | exact Note.readBid_len | exact Note.readReceipt_len.1 | exact Note.readReceipt_len.2)) (q_len_c4b32b32 (by first | assumption | exact Note.readBid_len | exact Note.readReceipt_len.1 | exact Note.readReceipt_len.2) (by first | assumption | exact Note.readBid_len | exact Note.readReceipt_len.1 | exact Note.readReceipt_len.2)) (q_spl_c4b32b32_0_c4b32b32 (by first | assumption | exact Note.readBid_len | exact Note.readReceipt_len.1 | exact Note.readReceipt_len.2) (by first | assumption | exact Note.readBid_len | exact Note.readReceipt_len.1 | exact Note.readReceipt_len.2) (by first | assumption | exact Note.readBid_len | exact Note.readReceipt_len.1 | exact Note.readReceipt_len.2) (by first | assumption | exact Note.readBid_len | exact Note.readReceipt_len.1 | exact Note.readReceipt_len.2)) (by decide) rfl rfl H53 ?_
        clear H53; intro wx54 H54
        refine plain (y_assign rfl rfl) rfl rfl rfl H54 ?_
        clear H54; intro a55 H55
        refine fin ?_
        refine then_n ?_
        refine wp_seq ?_
        refine reg ?_
        refine plain (y_move rfl rfl) rfl rfl rfl H55 ?_
        clear H55; intro a56 H56
        refine plain (y_neq rfl rfl rfl) rfl rfl rfl H56 ?_
        clear H56; intro a57 H57
        refine plain (y_move rfl rfl) rfl rfl rfl H57 ?_
        clear H57; intro a58 H58
        have H60 := H58.know (d := 67) (v := .bool false) rfl (congrArg Value.bool (decide_eq_false (fun h => h (by rw [hrr]))))
        clear H58
        refine plain (y_loadAB rfl z_agg35 z_size35 rfl (by repeat (first | exact Mh | apply Mt)) (q_ld_c4b32b32_0_68 (by first | assumption | exact Note.readBid_len | exact Note.readReceipt_len.1 | exact Note.readReceipt_len.2) (by first | assumption | exact Note.readBid_len | exact Note.readReceipt_len.1 | exact Note.readReceipt_len.2)) (q_len_c4b32b32 (by first | assumption | exact Note.readBid_len | exact Note.readReceipt_len.1 | exact Note.readReceipt_len.2) (by first | assumption | exact Note.readBid_len | exact Note.readReceipt_len.1 | exact Note.readReceipt_len.2))) rfl rfl rfl H60 ?_
        clear H60; intro a61 H61
        refine plain (y_fieldB rfl z_field60_1 rfl (by first | (simp only [Nat.zero_add, Nat.add_zero, Nat.reduceAdd]; rfl) | rfl)) rfl rfl rfl H61 ?_
        clear H61; intro a62 H62
        refine plain (y_loadAB rfl z_agg35 z_size35 rfl (by repeat (first | exact Mh | apply Mt)) (q_ld_c4b32c4b32b32c8_36_68 (by first | assumption | exact Note.readBid_len | exact Note.readReceipt_len.1 | exact Note.readReceipt_len.2) (by first | assumption | exact Note.readBid_len | exact Note.readReceipt_len.1 | exact Note.readReceipt_len.2) (by first | assumption | exact Note.readBid_len | exact Note.readReceipt_len.1 | exact Note.readReceipt_len.2)) (q_len_c4b32b32 (by first | assumption | exact Note.readBid_len | exact Note.readReceipt_len.1 | exact Note.readReceipt_len.2) (by first | assumption | exact Note.readBid_len | exact Note.readReceipt_len.1 | exact Note.readReceipt_len.2))) rfl rfl rfl H62 ?_
        clear H62; intro a63 H63
        refine plain (y_tneq rfl (by kernel_rfl) rfl rfl (eqr_Receipt (Note.readReceipt (Note.writeReceipt x.receipt).1).1 x.receipt Note.readReceipt_len.1 wf.receipt.prev Note.readReceipt_len.2 wf.receipt.hash)) rfl rfl rfl H63 ?_
        clear H63; intro a64 H64
        refine plain (y_pick_f rfl rfl rfl) rfl rfl rfl H64 ?_
        clear H64; intro a65 H65
        refine fin ?_
        refine then_n ?_
        refine cnd H65 rfl (fun hc66 => ?_) (fun hc66 => ?_) -- cond 5
        · (try simp only [decide_eq_true_eq, decide_eq_false_iff_not, Bool.not_eq_true', Bool.not_eq_false', Bool.and_eq_true, Bool.not_eq_true, Bool.not_eq_false] at hc66); (rw [hrr] at hc66; exact absurd rfl hc66)
        · skip
          try simp only [decide_eq_true_eq, decide_eq_false_iff_not, Bool.not_eq_true', Bool.not_eq_false', Bool.and_eq_true, Bool.not_eq_true, Bool.not_eq_false] at hc66
          refine wp_skip ?_
          refine cut_n ?_
          exact (H65.drop (by first | exact S0 | exact S1 | repeat (first | exact S1 | exact S0 | apply S2 | apply S3))).weak ⟨rfl, rfl, trivial⟩ rfl
      · skip
        try simp only [decide_eq_true_eq, decide_eq_false_iff_not, Bool.not_eq_true', Bool.not_eq_false', Bool.and_eq_true, Bool.not_eq_true, Bool.not_eq_false] at hc47
        refine wp_skip ?_
        refine cut_n ?_
        exact (H46.drop (by first | exact S0 | exact S1 | repeat (first | exact S1 | exact S0 | apply S2 | apply S3))).weak ⟨rfl, rfl, trivial⟩ rfl
    · clear H46; intro a67 wx67 hI67
      have H67 := hI67
      refine then_n ?_
      refine wp_seq ?_
      refine wp_seq ?_
      refine reg ?_
      refine plain (y_fieldB rfl z_field60_2 rfl (by first | (simp only [Nat.zero_add, Nat.add_zero, Nat.reduceAdd]; rfl) | rfl)) rfl rfl rfl H67 ?_
      clear H67; intro a68 H68
      refine plain (y_loadAB rfl z_agg42 z_size42 rfl (by repeat (first | exact Mh | apply Mt)) (q_ld_c4b32c4b32b32c8_104_4 (by first | assumption | exact Note.readBid_len | exact Note.readReceipt_len.1 | exact Note.readReceipt_len.2) (by first | assumption | exact Note.readBid_len | exact Note.readReceipt_len.1 | exact Note.readReceipt_len.2) (by first | assumption | exact Note.readBid_len | exact Note.readReceipt_len.1 | exact Note.readReceipt_len.2)) q_len_c4) rfl rfl rfl H68 ?_
      clear H68; intro a69 H69
      refine st_callg rfl z_call21 rfl rfl rfl rfl H69 (nwbatch x.batch wf.batch x.A x.c (Rd.frm wf.rd H69.sep.frm (by simp))) ?_
      clear H69; intro a70 wx70 H70
      refine plain (y_move rfl rfl) rfl rfl rfl H70 ?_
      clear H70; intro a71 H71
      refine plain (y_extract rfl rfl rfl) rfl rfl rfl H71 ?_
      clear H71; intro a72 H72
      refine plain (y_extract rfl rfl rfl) rfl rfl rfl H72 ?_
      clear H72; intro a73 H73
      refine plain (y_assign rfl rfl) rfl rfl rfl H73 ?_
      clear H73; intro a74 H74
      refine plain (y_assign rfl rfl) rfl rfl rfl H74 ?_
      clear H74; intro a75 H75
      refine fin ?_
      refine then_n ?_
      refine wp_seq ?_
      refine reg ?_
      refine plain (y_move rfl rfl) rfl rfl rfl H75 ?_
      clear H75; intro a76 H76
      refine plain (y_eql rfl rfl rfl) rfl rfl rfl H76 ?_
      clear H76; intro a77 H77
      refine fin ?_
      refine then_n ?_
      refine wp_cut (fun aC wC => St Tryd.f9.ntmps [] w ([(1, str s), (2, .pointer (some ⟨b1, 0, none⟩))]) ([It.blk b1 60 (Note.All.cells x)]) aC wC) ?_ ?_
      · skip
        refine cnd H77 rfl (fun hc78 => ?_) (fun hc78 => ?_) -- cond 6
        · skip
          try simp only [decide_eq_true_eq, decide_eq_false_iff_not, Bool.not_eq_true', Bool.not_eq_false', Bool.and_eq_true, Bool.not_eq_true, Bool.not_eq_false] at hc78
          have hz := hc78
          have hrr := Note.readBatch_write hz
          refine wp_seq ?_
          refine reg ?_
          refine plain (y_move rfl rfl) rfl rfl rfl H77 ?_
          clear H77; intro a79 H79
          refine st_call rfl z_call29 rfl rfl rfl rfl H79 (nreadbatch (Note.writeBatch x.batch).1 (by have := Note.wbatch_len (b := x.batch); omega)) ?_
          clear H79; intro v80 l80 a80 wx80 hf80 H80
          obtain ⟨Abx, cbx, rfl, rfl⟩ := hf80
          simp only [List.cons_append, List.nil_append] at H80
          refine plain (y_move rfl rfl) rfl rfl rfl H80 ?_
          clear H80; intro a81 H81
          refine plain (y_extract rfl rfl rfl) rfl rfl rfl H81 ?_
          clear H81; intro a82 H82
          refine plain (y_extract rfl rfl rfl) rfl rfl rfl H82 ?_
          clear H82; intro a83 H83
          refine st_alloc rfl z_zeroN42 rfl rfl rfl H83 ?_
          clear H83; intro b84 a84 wx84 H84
          refine st_storeN rfl z_size42 rfl rfl (agg_cells _) (by repeat (first | exact Uh | apply Ut)) (q_one_c4 rfl rfl rfl rfl) q_len_c4 q_len_c4 q_spl_c4_0_c4 (by decide) rfl rfl H84 ?_
          clear H84; intro wx85 H85
          refine plain (y_assign rfl rfl) rfl rfl rfl H85 ?_
          clear H85; intro a86 H86
          refine fin ?_
          refine then_n ?_
          refine wp_seq ?_
          refine reg ?_
          refine plain (y_move rfl rfl) rfl rfl rfl H86 ?_
          clear H86; intro a87 H87
          refine plain (y_neq rfl rfl rfl) rfl rfl rfl H87 ?_
          clear H87; intro a88 H88
          refine plain (y_move rfl rfl) rfl rfl rfl H88 ?_
          clear H88; intro a89 H89
          have H91 := H89.know (d := 88) (v := .bool false) rfl (congrArg Value.bool (decide_eq_false (fun h => h (by rw [hrr]))))
          clear H89
          refine plain (y_loadAB rfl z_agg42 z_size42 rfl (by repeat (first | exact Mh | apply Mt)) q_ld_c4_0_4 q_len_c4) rfl rfl rfl H91 ?_
          clear H91; intro a92 H92
          refine plain (y_fieldB rfl z_field60_2 rfl (by first | (simp only [Nat.zero_add, Nat.add_zero, Nat.reduceAdd]; rfl) | rfl)) rfl rfl rfl H92 ?_
          clear H92; intro a93 H93
          refine plain (y_loadAB rfl z_agg42 z_size42 rfl (by repeat (first | exact Mh | apply Mt)) (q_ld_c4b32c4b32b32c8_104_4 (by first | assumption | exact Note.readBid_len | exact Note.readReceipt_len.1 | exact Note.readReceipt_len.2) (by first | assumption | exact Note.readBid_len | exact Note.readReceipt_len.1 | exact Note.readReceipt_len.2) (by first | assumption | exact Note.readBid_len | exact Note.readReceipt_len.1 | exact Note.readReceipt_len.2)) q_len_c4) rfl rfl rfl H93 ?_
          clear H93; intro a94 H94
          refine st_callg rfl z_call33 rfl rfl rfl rfl H94 (rbatches (Note.readBatch (Note.writeBatch x.batch).1).1 x.batch Abx x.A cbx x.c (by have := Note.readBatch_len (s := (Note.writeBatch x.batch).1); omega) wf.batch.len (Rd.ofSep (rd_row (by repeat (first | exact Mh | apply Mt))) H94.sep) (Rd.frm wf.rd H94.sep.frm (by simp))) ?_
          clear H94; intro a95 wx95 H95
          refine plain ((by first | exact y_not_d rfl rfl | exact y_not rfl rfl)) rfl rfl rfl H95 ?_
          clear H95; intro a96 H96
          refine plain (y_pick_f rfl rfl rfl) rfl rfl rfl H96 ?_
          clear H96; intro a97 H97
          refine fin ?_
          refine then_n ?_
          refine cnd H97 rfl (fun hc98 => ?_) (fun hc98 => ?_) -- cond 7
          · (try simp only [decide_eq_true_eq, decide_eq_false_iff_not, Bool.not_eq_true', Bool.not_eq_false', Bool.and_eq_true, Bool.not_eq_true, Bool.not_eq_false] at hc98); (rw [hrr] at hc98; exact absurd rfl hc98)
          · skip
            try simp only [decide_eq_true_eq, decide_eq_false_iff_not, Bool.not_eq_true', Bool.not_eq_false', Bool.and_eq_true, Bool.not_eq_true, Bool.not_eq_false] at hc98
            refine wp_skip ?_
            refine cut_n ?_
            exact (H97.drop (by first | exact S0 | exact S1 | repeat (first | exact S1 | exact S0 | apply S2 | apply S3))).weak ⟨rfl, rfl, trivial⟩ rfl
        · skip
          try simp only [decide_eq_true_eq, decide_eq_false_iff_not, Bool.not_eq_true', Bool.not_eq_false', Bool.and_eq_true, Bool.not_eq_true, Bool.not_eq_false] at hc78
          refine wp_skip ?_
          refine cut_n ?_
          exact (H77.drop (by first | exact S0 | exact S1 | repeat (first | exact S1 | exact S0 | apply S2 | apply S3))).weak ⟨rfl, rfl, trivial⟩ rfl
      · clear H77; intro a99 wx99 hI99
        have H99 := hI99
        refine then_n ?_
        refine wp_seq ?_
        refine wp_seq ?_
        refine reg ?_
        refine plain (y_fieldB rfl z_field60_3 rfl (by first | (simp only [Nat.zero_add, Nat.add_zero, Nat.reduceAdd]; rfl) | rfl)) rfl rfl rfl H99 ?_
        clear H99; intro a100 H100
        refine plain (y_loadAB rfl z_agg46 z_size46 rfl (by repeat (first | exact Mh | apply Mt)) (q_ld_c4b32c4b32b32c8_108_4 (by first | assumption | exact Note.readBid_len | exact Note.readReceipt_len.1 | exact Note.readReceipt_len.2) (by first | assumption | exact Note.readBid_len | exact Note.readReceipt_len.1 | exact Note.readReceipt_len.2) (by first | assumption | exact Note.readBid_len | exact Note.readReceipt_len.1 | exact Note.readReceipt_len.2)) q_len_c4) rfl rfl rfl H100 ?_
        clear H100; intro a101 H101
        refine st_callg rfl z_call23 rfl rfl rfl rfl H101 (nwitem x.item wf.item _) ?_
        clear H101; intro a102 wx102 H102
        refine plain (y_move rfl rfl) rfl rfl rfl H102 ?_
        clear H102; intro a103 H103
        refine plain (y_extract rfl rfl rfl) rfl rfl rfl H103 ?_
        clear H103; intro a104 H104
        refine plain (y_extract rfl rfl rfl) rfl rfl rfl H104 ?_
        clear H104; intro a105 H105
        refine plain (y_assign rfl rfl) rfl rfl rfl H105 ?_
        clear H105; intro a106 H106
        refine plain (y_assign rfl rfl) rfl rfl rfl H106 ?_
        clear H106; intro a107 H107
        refine fin ?_
        refine then_n ?_
        refine wp_seq ?_
        refine reg ?_
        refine plain (y_move rfl rfl) rfl rfl rfl H107 ?_
        clear H107; intro a108 H108
        refine plain (y_eql rfl rfl rfl) rfl rfl rfl H108 ?_
        clear H108; intro a109 H109
        refine fin ?_
        refine then_n ?_
        refine wp_cut (fun aC wC => St Tryd.f9.ntmps [] w ([(1, str s), (2, .pointer (some ⟨b1, 0, none⟩))]) ([It.blk b1 60 (Note.All.cells x)]) aC wC) ?_ ?_
        · skip
          refine cnd H109 rfl (fun hc110 => ?_) (fun hc110 => ?_) -- cond 8
          · skip
            try simp only [decide_eq_true_eq, decide_eq_false_iff_not, Bool.not_eq_true', Bool.not_eq_false', Bool.and_eq_true, Bool.not_eq_true, Bool.not_eq_false] at hc110
            have hz := hc110
            have hrr := Note.readItem_write hz
            refine wp_seq ?_
            refine reg ?_
            refine plain (y_move rfl rfl) rfl rfl rfl H109 ?_
            clear H109; intro a111 H111
            refine st_callg rfl z_call31 rfl rfl rfl rfl H111 (nreaditem (Note.writeItem x.item).1 (by have := Note.witem_len (i := x.item); omega)) ?_
            clear H111; intro a112 wx112 H112
            refine plain (y_move rfl rfl) rfl rfl rfl H112 ?_
            clear H112; intro a113 H113
            refine plain (y_extract rfl rfl rfl) rfl rfl rfl H113 ?_
            clear H113; intro a114 H114
            refine plain (y_extract rfl rfl rfl) rfl rfl rfl H114 ?_
            clear H114; intro a115 H115
            refine st_alloc rfl z_zeroN46 rfl rfl rfl H115 ?_
            clear H115; intro b116 a116 wx116 H116
            refine st_storeN rfl z_size46 rfl rfl (agg_cells _) (by repeat (first | exact Uh | apply Ut)) (q_one_c4 rfl rfl rfl rfl) q_len_c4 q_len_c4 q_spl_c4_0_c4 (by decide) rfl rfl H116 ?_
            clear H116; intro wx117 H117
            refine plain (y_assign rfl rfl) rfl rfl rfl H117 ?_
            clear H117; intro a118 H118
            refine fin ?_
            refine then_n ?_
            refine wp_seq ?_
            refine reg ?_
            refine plain (y_move rfl rfl) rfl rfl rfl H118 ?_
            clear H118; intro a119 H119
            refine plain (y_neq rfl rfl rfl) rfl rfl rfl H119 ?_
            clear H119; intro a120 H120
            refine plain (y_move rfl rfl) rfl rfl rfl H120 ?_
            clear H120; intro a121 H121
            have H123 := H121.know (d := 110) (v := .bool false) rfl (congrArg Value.bool (decide_eq_false (fun h => h (by rw [hrr]))))
            clear H121
            refine plain (y_loadAB rfl z_agg46 z_size46 rfl (by repeat (first | exact Mh | apply Mt)) q_ld_c4_0_4 q_len_c4) rfl rfl rfl H123 ?_
            clear H123; intro a124 H124
            refine plain (y_fieldB rfl z_field60_3 rfl (by first | (simp only [Nat.zero_add, Nat.add_zero, Nat.reduceAdd]; rfl) | rfl)) rfl rfl rfl H124 ?_
            clear H124; intro a125 H125
            refine plain (y_loadAB rfl z_agg46 z_size46 rfl (by repeat (first | exact Mh | apply Mt)) (q_ld_c4b32c4b32b32c8_108_4 (by first | assumption | exact Note.readBid_len | exact Note.readReceipt_len.1 | exact Note.readReceipt_len.2) (by first | assumption | exact Note.readBid_len | exact Note.readReceipt_len.1 | exact Note.readReceipt_len.2) (by first | assumption | exact Note.readBid_len | exact Note.readReceipt_len.1 | exact Note.readReceipt_len.2)) q_len_c4) rfl rfl rfl H125 ?_
            clear H125; intro a126 H126
            refine plain (y_tneq rfl (by kernel_rfl) rfl rfl (eqr_Item (Note.readItem (Note.writeItem x.item).1).1 x.item )) rfl rfl rfl H126 ?_
            clear H126; intro a127 H127
            refine plain (y_pick_f rfl rfl rfl) rfl rfl rfl H127 ?_
            clear H127; intro a128 H128
            refine fin ?_
            refine then_n ?_
            refine cnd H128 rfl (fun hc129 => ?_) (fun hc129 => ?_) -- cond 9
            · (try simp only [decide_eq_true_eq, decide_eq_false_iff_not, Bool.not_eq_true', Bool.not_eq_false', Bool.and_eq_true, Bool.not_eq_true, Bool.not_eq_false] at hc129); (rw [hrr] at hc129; exact absurd rfl hc129)
            · skip
              try simp only [decide_eq_true_eq, decide_eq_false_iff_not, Bool.not_eq_true', Bool.not_eq_false', Bool.and_eq_true, Bool.not_eq_true, Bool.not_eq_false] at hc129
              refine wp_skip ?_
              refine cut_n ?_
              exact (H128.drop (by first | exact S0 | exact S1 | repeat (first | exact S1 | exact S0 | apply S2 | apply S3))).weak ⟨rfl, rfl, trivial⟩ rfl
          · skip
            try simp only [decide_eq_true_eq, decide_eq_false_iff_not, Bool.not_eq_true', Bool.not_eq_false', Bool.and_eq_true, Bool.not_eq_true, Bool.not_eq_false] at hc110
            refine wp_skip ?_
            refine cut_n ?_
            exact (H109.drop (by first | exact S0 | exact S1 | repeat (first | exact S1 | exact S0 | apply S2 | apply S3))).weak ⟨rfl, rfl, trivial⟩ rfl
        · clear H109; intro a130 wx130 hI130
          have H130 := hI130
          refine then_n ?_
          refine wp_seq ?_
          refine reg ?_
          refine plain (y_move rfl rfl) rfl rfl rfl H130 ?_
          clear H130; intro a131 H131
          refine st_call rfl z_call29 rfl rfl rfl rfl H131 (nreadbatch s hs) ?_
          clear H131; intro v132 l132 a132 wx132 hf132 H132
          obtain ⟨Aby, cby, rfl, rfl⟩ := hf132
          simp only [List.cons_append, List.nil_append] at H132
          refine plain (y_move rfl rfl) rfl rfl rfl H132 ?_
          clear H132; intro a133 H133
          refine plain (y_extract rfl rfl rfl) rfl rfl rfl H133 ?_
          clear H133; intro a134 H134
          refine plain (y_extract rfl rfl rfl) rfl rfl rfl H134 ?_
          clear H134; intro a135 H135
          refine st_alloc rfl z_zeroN42 rfl rfl rfl H135 ?_
          clear H135; intro b136 a136 wx136 H136
          refine st_storeN rfl z_size42 rfl rfl (agg_cells _) (by repeat (first | exact Uh | apply Ut)) (q_one_c4 rfl rfl rfl rfl) q_len_c4 q_len_c4 q_spl_c4_0_c4 (by decide) rfl rfl H136 ?_
          clear H136; intro wx137 H137
          refine plain (y_assign rfl rfl) rfl rfl rfl H137 ?_
          clear H137; intro a138 H138
          refine fin ?_
          refine then_n ?_
          refine wp_seq ?_
          refine reg ?_
          refine plain (y_move rfl rfl) rfl rfl rfl H138 ?_
          clear H138; intro a139 H139
          refine st_callg rfl z_call31 rfl rfl rfl rfl H139 (nreaditem s hs) ?_
          clear H139; intro a140 wx140 H140
          refine plain (y_move rfl rfl) rfl rfl rfl H140 ?_
          clear H140; intro a141 H141
          refine plain (y_extract rfl rfl rfl) rfl rfl rfl H141 ?_
          clear H141; intro a142 H142
          refine plain (y_extract rfl rfl rfl) rfl rfl rfl H142 ?_
          clear H142; intro a143 H143
          refine st_alloc rfl z_zeroN46 rfl rfl rfl H143 ?_
          clear H143; intro b144 a144 wx144 H144
          refine st_storeN rfl z_size46 rfl rfl (agg_cells _) (by repeat (first | exact Uh | apply Ut)) (q_one_c4 rfl rfl rfl rfl) q_len_c4 q_len_c4 q_spl_c4_0_c4 (by decide) rfl rfl H144 ?_
          clear H144; intro wx145 H145
          refine plain (y_assign rfl rfl) rfl rfl rfl H145 ?_
          clear H145; intro a146 H146
          refine fin ?_
          refine then_n ?_
          refine wp_seq ?_
          refine reg ?_
          refine plain (y_loadAB rfl z_agg42 z_size42 rfl (by repeat (first | exact Mh | apply Mt)) q_ld_c4_0_4 q_len_c4) rfl rfl rfl H146 ?_
          clear H146; intro a147 H147
          refine st_callg rfl z_call21 rfl rfl rfl rfl H147 (nwbatch (Note.readBatch s).1 Note.readBatch_wf Aby cby (Rd.ofSep (rd_row (by repeat (first | exact Mh | apply Mt))) H147.sep)) ?_
          clear H147; intro a148 wx148 H148
          refine plain (y_move rfl rfl) rfl rfl rfl H148 ?_
          clear H148; intro a149 H149
          refine plain (y_extract rfl rfl rfl) rfl rfl rfl H149 ?_
          clear H149; intro a150 H150
          refine plain (y_extract rfl rfl rfl) rfl rfl rfl H150 ?_
          clear H150; intro a151 H151
          refine plain (y_assign rfl rfl) rfl rfl rfl H151 ?_
          clear H151; intro a152 H152
          refine plain (y_assign rfl rfl) rfl rfl rfl H152 ?_
          clear H152; intro a153 H153
          refine fin ?_
          refine then_n ?_
          refine wp_seq ?_
          refine reg ?_
          refine plain (y_loadAB rfl z_agg46 z_size46 rfl (by repeat (first | exact Mh | apply Mt)) q_ld_c4_0_4 q_len_c4) rfl rfl rfl H153 ?_
          clear H153; intro a154 H154
          refine st_callg rfl z_call23 rfl rfl rfl rfl H154 (nwitem (Note.readItem s).1 Note.readItem_wf _) ?_
          clear H154; intro a155 wx155 H155
          refine plain (y_move rfl rfl) rfl rfl rfl H155 ?_
          clear H155; intro a156 H156
          refine plain (y_extract rfl rfl rfl) rfl rfl rfl H156 ?_
          clear H156; intro a157 H157
          refine plain (y_extract rfl rfl rfl) rfl rfl rfl H157 ?_
          clear H157; intro a158 H158
          refine plain (y_assign rfl rfl) rfl rfl rfl H158 ?_
          clear H158; intro a159 H159
          refine plain (y_assign rfl rfl) rfl rfl rfl H159 ?_
          clear H159; intro a160 H160
          refine fin ?_
          refine then_n ?_
          refine wp_seq ?_
          refine reg ?_
          refine plain (y_move rfl rfl) rfl rfl rfl H160 ?_
          clear H160; intro a161 H161
          refine plain (y_neq rfl rfl rfl) rfl rfl rfl H161 ?_
          clear H161; intro a162 H162
          refine plain (y_move rfl rfl) rfl rfl rfl H162 ?_
          clear H162; intro a163 H163
          refine Sx.part (d := 138) H163 rfl (fun hg164 => ?_) (fun hg164 => ?_)
          · first
            | fail
            | skip
              clear H163; intro H165
              try simp only [decide_eq_true_eq, decide_eq_false_iff_not, Bool.not_eq_true', Bool.not_eq_false', Bool.and_eq_true, Bool.not_eq_true, Bool.not_eq_false] at hg164
              refine skip rfl rfl rfl H165 ?_
              clear H165; intro a166 H166
              refine skip rfl rfl rfl H166 ?_
              clear H166; intro a167 H167
              refine skip rfl rfl rfl H167 ?_
              clear H167; intro a168 H168
              refine skip rfl rfl rfl H168 ?_
              clear H168; intro a169 H169
              refine skip rfl rfl rfl H169 ?_
              clear H169; intro a170 H170
              refine skip rfl rfl rfl H170 ?_
              clear H170; intro a171 H171
              refine skip rfl rfl rfl H171 ?_
              clear H171; intro a172 H172
              refine plain (y_pick_t rfl rfl rfl) rfl rfl rfl H172 ?_
              clear H172; intro a173 H173
              refine plain (y_move rfl rfl) rfl rfl rfl H173 ?_
              clear H173; intro a174 H174
              refine plain (y_move rfl rfl) rfl rfl rfl H174 ?_
              clear H174; intro a175 H175
              refine plain (y_neq rfl rfl rfl) rfl rfl rfl H175 ?_
              clear H175; intro a176 H176
              refine plain (y_move rfl rfl) rfl rfl rfl H176 ?_
              clear H176; intro a177 H177
              refine Sx.part (d := 150) H177 rfl (fun hg178 => ?_) (fun hg178 => ?_)
              · first
                | fail
                | skip
                  clear H177; intro H179
                  try simp only [decide_eq_true_eq, decide_eq_false_iff_not, Bool.not_eq_true', Bool.not_eq_false', Bool.and_eq_true, Bool.not_eq_true, Bool.not_eq_false] at hg178
                  refine skip rfl rfl rfl H179 ?_
                  clear H179; intro a180 H180
                  refine skip rfl rfl rfl H180 ?_
                  clear H180; intro a181 H181
                  refine skip rfl rfl rfl H181 ?_
                  clear H181; intro a182 H182
                  refine skip rfl rfl rfl H182 ?_
                  clear H182; intro a183 H183
                  refine skip rfl rfl rfl H183 ?_
                  clear H183; intro a184 H184
                  refine skip rfl rfl rfl H184 ?_
                  clear H184; intro a185 H185
                  refine skip rfl rfl rfl H185 ?_
                  clear H185; intro a186 H186
                  refine plain (y_pick_t rfl rfl rfl) rfl rfl rfl H186 ?_
                  clear H186; intro a187 H187
                  refine plain (y_pick_t rfl rfl rfl) rfl rfl rfl H187 ?_
                  clear H187; intro a188 H188
                  refine plain (y_assign rfl rfl) rfl rfl rfl H188 ?_
                  clear H188; intro a189 H189
                  refine fin ?_
                  refine then_n ?_
                  refine wp_ret ?_
                  -- return 1
                  refine ret1 rfl H189 rfl ?_
                  first | exact ⟨_, [], rfl, ⟨rfl, rfl⟩, H189.sep.sub (List.nil_sublist _)⟩ | exact ⟨_, [], rfl, ⟨congrArg Value.bool (decide_eq_true (by rw [Note.write_readItem (by omega)])), rfl⟩, H189.sep.sub (List.nil_sublist _)⟩
              · first
                | fail
                | skip
                  clear H177; intro H190
                  try simp only [decide_eq_true_eq, decide_eq_false_iff_not, Bool.not_eq_true', Bool.not_eq_false', Bool.and_eq_true, Bool.not_eq_true, Bool.not_eq_false] at hg178
                  refine plain (y_move rfl rfl) rfl rfl rfl H190 ?_
                  clear H190; intro a191 H191
                  refine plain (y_eql rfl rfl rfl) rfl rfl rfl H191 ?_
                  clear H191; intro a192 H192
                  refine plain (y_move rfl rfl) rfl rfl rfl H192 ?_
                  clear H192; intro a193 H193
                  have H195 := H193.know (d := 153) (v := .bool true) rfl (congrArg Value.bool (decide_eq_true (by rw [Note.write_readItem (Decidable.not_not.1 (by assumption))])))
                  clear H193
                  refine plain (y_move rfl rfl) rfl rfl rfl H195 ?_
                  clear H195; intro a196 H196
                  refine plain (y_move rfl rfl) rfl rfl rfl H196 ?_
                  clear H196; intro a197 H197
                  refine plain (y_seql rfl rfl rfl) rfl rfl rfl H197 ?_
                  clear H197; intro a198 H198
                  refine plain (y_pick_t rfl rfl rfl) rfl rfl rfl H198 ?_
                  clear H198; intro a199 H199
                  refine plain (y_pick_f rfl rfl rfl) rfl rfl rfl H199 ?_
                  clear H199; intro a200 H200
                  refine plain (y_pick_t rfl rfl rfl) rfl rfl rfl H200 ?_
                  clear H200; intro a201 H201
                  refine plain (y_assign rfl rfl) rfl rfl rfl H201 ?_
                  clear H201; intro a202 H202
                  refine fin ?_
                  refine then_n ?_
                  refine wp_ret ?_
                  -- return 2
                  refine ret1 rfl H202 rfl ?_
                  first | exact ⟨_, [], rfl, ⟨rfl, rfl⟩, H202.sep.sub (List.nil_sublist _)⟩ | exact ⟨_, [], rfl, ⟨congrArg Value.bool (decide_eq_true (by rw [Note.write_readItem (by omega)])), rfl⟩, H202.sep.sub (List.nil_sublist _)⟩
          · first
            | fail
            | skip
              clear H163; intro H203
              try simp only [decide_eq_true_eq, decide_eq_false_iff_not, Bool.not_eq_true', Bool.not_eq_false', Bool.and_eq_true, Bool.not_eq_true, Bool.not_eq_false] at hg164
              refine plain (y_move rfl rfl) rfl rfl rfl H203 ?_
              clear H203; intro a204 H204
              refine plain (y_eql rfl rfl rfl) rfl rfl rfl H204 ?_
              clear H204; intro a205 H205
              refine plain (y_move rfl rfl) rfl rfl rfl H205 ?_
              clear H205; intro a206 H206
              have H208 := H206.know (d := 141) (v := .bool true) rfl (congrArg Value.bool (decide_eq_true (by rw [Note.write_readBatch (Decidable.not_not.1 (by assumption))])))
              clear H206
              refine plain (y_move rfl rfl) rfl rfl rfl H208 ?_
              clear H208; intro a209 H209
              refine plain (y_move rfl rfl) rfl rfl rfl H209 ?_
              clear H209; intro a210 H210
              refine plain (y_seql rfl rfl rfl) rfl rfl rfl H210 ?_
              clear H210; intro a211 H211
              refine plain (y_pick_t rfl rfl rfl) rfl rfl rfl H211 ?_
              clear H211; intro a212 H212
              refine plain (y_pick_f rfl rfl rfl) rfl rfl rfl H212 ?_
              clear H212; intro a213 H213
              refine plain (y_move rfl rfl) rfl rfl rfl H213 ?_
              clear H213; intro a214 H214
              have H216 := H214.know (d := 147) (v := .bool true) rfl (congrArg Value.bool (decide_eq_true (by rw [Note.write_readBatch (Decidable.not_not.1 (by assumption))])))
              clear H214
              refine plain (y_move rfl rfl) rfl rfl rfl H216 ?_
              clear H216; intro a217 H217
              refine plain (y_neq rfl rfl rfl) rfl rfl rfl H217 ?_
              clear H217; intro a218 H218
              refine plain (y_move rfl rfl) rfl rfl rfl H218 ?_
              clear H218; intro a219 H219
              refine Sx.part (d := 150) H219 rfl (fun hg220 => ?_) (fun hg220 => ?_)
              · first
                | fail
                | skip
                  clear H219; intro H221
                  try simp only [decide_eq_true_eq, decide_eq_false_iff_not, Bool.not_eq_true', Bool.not_eq_false', Bool.and_eq_true, Bool.not_eq_true, Bool.not_eq_false] at hg220
                  refine skip rfl rfl rfl H221 ?_
                  clear H221; intro a222 H222
                  refine skip rfl rfl rfl H222 ?_
                  clear H222; intro a223 H223
                  refine skip rfl rfl rfl H223 ?_
                  clear H223; intro a224 H224
                  refine skip rfl rfl rfl H224 ?_
                  clear H224; intro a225 H225
                  refine skip rfl rfl rfl H225 ?_
                  clear H225; intro a226 H226
                  refine skip rfl rfl rfl H226 ?_
                  clear H226; intro a227 H227
                  refine skip rfl rfl rfl H227 ?_
                  clear H227; intro a228 H228
                  refine plain (y_pick_t rfl rfl rfl) rfl rfl rfl H228 ?_
                  clear H228; intro a229 H229
                  refine plain (y_pick_t rfl rfl rfl) rfl rfl rfl H229 ?_
                  clear H229; intro a230 H230
                  refine plain (y_assign rfl rfl) rfl rfl rfl H230 ?_
                  clear H230; intro a231 H231
                  refine fin ?_
                  refine then_n ?_
                  refine wp_ret ?_
                  -- return 3
                  refine ret1 rfl H231 rfl ?_
                  first | exact ⟨_, [], rfl, ⟨rfl, rfl⟩, H231.sep.sub (List.nil_sublist _)⟩ | exact ⟨_, [], rfl, ⟨congrArg Value.bool (decide_eq_true (by rw [Note.write_readItem (by omega)])), rfl⟩, H231.sep.sub (List.nil_sublist _)⟩
              · first
                | fail
                | skip
                  clear H219; intro H232
                  try simp only [decide_eq_true_eq, decide_eq_false_iff_not, Bool.not_eq_true', Bool.not_eq_false', Bool.and_eq_true, Bool.not_eq_true, Bool.not_eq_false] at hg220
                  refine plain (y_move rfl rfl) rfl rfl rfl H232 ?_
                  clear H232; intro a233 H233
                  refine plain (y_eql rfl rfl rfl) rfl rfl rfl H233 ?_
                  clear H233; intro a234 H234
                  refine plain (y_move rfl rfl) rfl rfl rfl H234 ?_
                  clear H234; intro a235 H235
                  have H237 := H235.know (d := 153) (v := .bool true) rfl (congrArg Value.bool (decide_eq_true (by rw [Note.write_readItem (Decidable.not_not.1 (by assumption))])))
                  clear H235
                  refine plain (y_move rfl rfl) rfl rfl rfl H237 ?_
                  clear H237; intro a238 H238
                  refine plain (y_move rfl rfl) rfl rfl rfl H238 ?_
                  clear H238; intro a239 H239
                  refine plain (y_seql rfl rfl rfl) rfl rfl rfl H239 ?_
                  clear H239; intro a240 H240
                  refine plain (y_pick_t rfl rfl rfl) rfl rfl rfl H240 ?_
                  clear H240; intro a241 H241
                  refine plain (y_pick_f rfl rfl rfl) rfl rfl rfl H241 ?_
                  clear H241; intro a242 H242
                  refine plain (y_pick_t rfl rfl rfl) rfl rfl rfl H242 ?_
                  clear H242; intro a243 H243
                  refine plain (y_assign rfl rfl) rfl rfl rfl H243 ?_
                  clear H243; intro a244 H244
                  refine fin ?_
                  refine then_n ?_
                  refine wp_ret ?_
                  -- return 4
                  refine ret1 rfl H244 rfl ?_
                  first | exact ⟨_, [], rfl, ⟨rfl, rfl⟩, H244.sep.sub (List.nil_sublist _)⟩ | exact ⟨_, [], rfl, ⟨congrArg Value.bool (decide_eq_true (by rw [Note.write_readItem (by omega)])), rfl⟩, H244.sep.sub (List.nil_sublist _)⟩

end Go.Proofs.YtnnhnnhdoipbaaaDoor.N_L4

set_option linter.unusedVariables false
set_option linter.unusedSimpArgs false
namespace Go.Proofs.YtnnhnnhdoipbaaaDoor.N_Rd
open Go.Sx Go.RowKit

theorem rd_Bid {H : Type} {enc : TypeId × Value → H} {W : World} {sp : Nat → Bool} {held : Bool} {cs : List Value} (h : Trw enc Tryd.prog W sp held 25 cs) : ∃ (x : Note.Bid), cs = Note.Bid.cells x ∧ Note.Bid.Wf x := by
  have hp := h.pieces Tryd.underlying25 [1, 1, 1, 1, 32] (by kernel_rfl)
  obtain ⟨v0, e0, w0⟩ := (h.field Tryd.underlying25 0 rfl (o := 0) rfl (T := 3) rfl (k := 1) (by kernel_rfl)).i64 Tryd.underlying3
  obtain ⟨v1, e1, w1⟩ := (h.field Tryd.underlying25 1 rfl (o := 1) rfl (T := 3) rfl (k := 1) (by kernel_rfl)).i64 Tryd.underlying3
  obtain ⟨v2, e2, w2⟩ := (h.field Tryd.underlying25 2 rfl (o := 2) rfl (T := 3) rfl (k := 1) (by kernel_rfl)).i64 Tryd.underlying3
  obtain ⟨v3, e3, w3⟩ := (h.field Tryd.underlying25 3 rfl (o := 3) rfl (T := 3) rfl (k := 1) (by kernel_rfl)).i64 Tryd.underlying3
  obtain ⟨v4, e4, w4⟩ := (h.field Tryd.underlying25 4 rfl (o := 4) rfl (T := 23) rfl (k := 32) (by kernel_rfl)).bytes Tryd.underlying23 Tryd.underlying5 (by kernel_rfl) (by kernel_rfl)
  refine ⟨⟨v0, v1, v2, v3, v4⟩, ?_, w0, w1, w2, w3, w4⟩
  rw [hp]
  simp only [Sx.pieces, Nat.zero_add, Nat.reduceAdd, e0, e1, e2, e3, e4]
  first | rfl | simp [Note.Bid.cells]
theorem rd_Receipt {H : Type} {enc : TypeId × Value → H} {W : World} {sp : Nat → Bool} {held : Bool} {cs : List Value} (h : Trw enc Tryd.prog W sp held 35 cs) : ∃ (x : Note.Receipt), cs = Note.Receipt.cells x ∧ Note.Receipt.Wf x := by
  have hp := h.pieces Tryd.underlying35 [1, 1, 1, 1, 32, 32] (by kernel_rfl)
  obtain ⟨v0, e0, w0⟩ := (h.field Tryd.underlying35 0 rfl (o := 0) rfl (T := 3) rfl (k := 1) (by kernel_rfl)).i64 Tryd.underlying3
  obtain ⟨v1, e1, w1⟩ := (h.field Tryd.underlying35 1 rfl (o := 1) rfl (T := 3) rfl (k := 1) (by kernel_rfl)).i64 Tryd.underlying3
  obtain ⟨v2, e2, w2⟩ := (h.field Tryd.underlying35 2 rfl (o := 2) rfl (T := 3) rfl (k := 1) (by kernel_rfl)).i64 Tryd.underlying3
  obtain ⟨v3, e3, w3⟩ := (h.field Tryd.underlying35 3 rfl (o := 3) rfl (T := 9) rfl (k := 1) (by kernel_rfl)).str Tryd.underlying9
  obtain ⟨v4, e4, w4⟩ := (h.field Tryd.underlying35 4 rfl (o := 4) rfl (T := 23) rfl (k := 32) (by kernel_rfl)).bytes Tryd.underlying23 Tryd.underlying5 (by kernel_rfl) (by kernel_rfl)
  obtain ⟨v5, e5, w5⟩ := (h.field Tryd.underlying35 5 rfl (o := 36) rfl (T := 23) rfl (k := 32) (by kernel_rfl)).bytes Tryd.underlying23 Tryd.underlying5 (by kernel_rfl) (by kernel_rfl)
  refine ⟨⟨v0, v1, v2, v3, v4, v5⟩, ?_, w0, w1, w2, w3, w4, w5⟩
  rw [hp]
  simp only [Sx.pieces, Nat.zero_add, Nat.reduceAdd, e0, e1, e2, e3, e4, e5]
  first | rfl | simp [Note.Receipt.cells]
theorem rd_Item {H : Type} {enc : TypeId × Value → H} {W : World} {sp : Nat → Bool} {held : Bool} {cs : List Value} (h : Trw enc Tryd.prog W sp held 46 cs) : ∃ (x : Note.Item), cs = Note.Item.cells x ∧ Note.Item.Wf x := by
  have hp := h.pieces Tryd.underlying46 [1, 1, 1, 1] (by kernel_rfl)
  obtain ⟨v0, e0, w0⟩ := (h.field Tryd.underlying46 0 rfl (o := 0) rfl (T := 3) rfl (k := 1) (by kernel_rfl)).i64 Tryd.underlying3
  obtain ⟨v1, e1, w1⟩ := (h.field Tryd.underlying46 1 rfl (o := 1) rfl (T := 3) rfl (k := 1) (by kernel_rfl)).i64 Tryd.underlying3
  obtain ⟨v2, e2, w2⟩ := (h.field Tryd.underlying46 2 rfl (o := 2) rfl (T := 3) rfl (k := 1) (by kernel_rfl)).i64 Tryd.underlying3
  obtain ⟨v3, e3, w3⟩ := (h.field Tryd.underlying46 3 rfl (o := 3) rfl (T := 9) rfl (k := 1) (by kernel_rfl)).str Tryd.underlying9
  refine ⟨⟨v0, v1, v2, v3⟩, ?_, w0, w1, w2, w3⟩
  rw [hp]
  simp only [Sx.pieces, Nat.zero_add, Nat.reduceAdd, e0, e1, e2, e3]
  first | rfl | simp [Note.Item.cells]
theorem rd_Part {H : Type} {enc : TypeId × Value → H} {W : World} {sp : Nat → Bool} {held : Bool} {cs : List Value} (h : Trw enc Tryd.prog W sp held 75 cs) : ∃ (x : Note.Part), cs = Note.Part.cells x ∧ x.text.length ≤ 140737488351232 := by
  have hp := h.pieces Tryd.underlying75 [1, 1] (by kernel_rfl)
  obtain ⟨v0, e0⟩ := (h.field Tryd.underlying75 0 rfl (o := 0) rfl (T := 4) rfl (k := 1) (by kernel_rfl)).bool Tryd.underlying4
  obtain ⟨v1, e1, w1⟩ := (h.field Tryd.underlying75 1 rfl (o := 1) rfl (T := 9) rfl (k := 1) (by kernel_rfl)).str Tryd.underlying9
  refine ⟨⟨v0, v1⟩, ?_, w1⟩
  rw [hp]
  simp only [Sx.pieces, Nat.zero_add, Nat.reduceAdd, e0, e1]
  first | rfl | simp [Note.Part.cells]
theorem rd_Batch {H : Type} {enc : TypeId × Value → H} {W : World} {sp : Nat → Bool} {held : Bool} {cs : List Value} (h : Trw enc Tryd.prog W sp held 42 cs) : ∃ (x : Note.Batch) (A3 : Option Addr) (c3 : Nat), cs = Note.Batch.cells x A3 c3 ∧ Note.Batch.Wf x ∧ Rd W A3 (Note.pc x.parts) := by
  have hp := h.pieces Tryd.underlying42 [1, 1, 1, 1] (by kernel_rfl)
  obtain ⟨v0, e0, w0⟩ := (h.field Tryd.underlying42 0 rfl (o := 0) rfl (T := 3) rfl (k := 1) (by kernel_rfl)).i64 Tryd.underlying3
  obtain ⟨v1, e1, w1⟩ := (h.field Tryd.underlying42 1 rfl (o := 1) rfl (T := 3) rfl (k := 1) (by kernel_rfl)).i64 Tryd.underlying3
  obtain ⟨v2, e2, w2⟩ := (h.field Tryd.underlying42 2 rfl (o := 2) rfl (T := 3) rfl (k := 1) (by kernel_rfl)).i64 Tryd.underlying3
  obtain ⟨A3, m3, c3, e3, hmc3, hm3, rows3, hr3, hR3, hrow3⟩ := ((h.field Tryd.underlying42 3 rfl (o := 3) rfl (T := 40) rfl (k := 1) (by kernel_rfl))).sliceC Tryd.underlying40 (by rw [show Tryd.prog.cellsOf 75 = 2 by kernel_rfl]; decide)
  obtain ⟨v3, rfl, w3⟩ := rows_map (f := Note.Part.cells) (rows := rows3) (fun r hr => rd_Part (hrow3 r hr).2)
  simp only [List.length_map] at hr3
  subst hr3
  refine ⟨⟨v0, v1, v2, v3⟩, A3, c3, ?_, ⟨w0, w1, w2, hm3, w3⟩, hR3⟩
  rw [hp]
  simp only [Sx.pieces, Nat.zero_add, Nat.reduceAdd, e0, e1, e2, e3]
  first | rfl | simp [Note.Batch.cells]
theorem rd_All {H : Type} {enc : TypeId × Value → H} {W : World} {sp : Nat → Bool} {held : Bool} {cs : List Value} (h : Trw enc Tryd.prog W sp held 60 cs) : ∃ (x : Note.All), cs = Note.All.cells x ∧ Note.All.Wf W x := by
  have hp := h.pieces Tryd.underlying60 [36, 68, 4, 4] (by kernel_rfl)
  obtain ⟨v0, e0, w0⟩ := rd_Bid (h.field Tryd.underlying60 0 rfl (o := 0) rfl (T := 25) rfl (k := 36) (by kernel_rfl))
  obtain ⟨v1, e1, w1⟩ := rd_Receipt (h.field Tryd.underlying60 1 rfl (o := 36) rfl (T := 35) rfl (k := 68) (by kernel_rfl))
  obtain ⟨v2, A2, c2, e2, w2⟩ := rd_Batch (h.field Tryd.underlying60 2 rfl (o := 104) rfl (T := 42) rfl (k := 4) (by kernel_rfl))
  obtain ⟨v3, e3, w3⟩ := rd_Item (h.field Tryd.underlying60 3 rfl (o := 108) rfl (T := 46) rfl (k := 4) (by kernel_rfl))
  refine ⟨⟨v0, v1, v2, A2, c2, v3⟩, ?_, ⟨w0, w1, w2.1, w2.2, w3⟩⟩
  rw [hp]
  simp only [Sx.pieces, Nat.zero_add, Nat.reduceAdd, e0, e1, e2, e3]
  rw [← Note.All.cells_is]
  simp

end Go.Proofs.YtnnhnnhdoipbaaaDoor.N_Rd
