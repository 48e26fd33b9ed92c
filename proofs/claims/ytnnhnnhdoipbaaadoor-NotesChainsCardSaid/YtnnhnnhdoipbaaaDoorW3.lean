/- Part of a proof about given Go functions: contracts of functions, or plain laws. -/
import Derived.Test.YtnnhnnhdoipbaaaDoorNoteV
import Derived.Test.YtnnhnnhdoipbaaaDoorSxI
import Derived.Test.YtnnhnnhdoipbaaaDoorProg
import Derived.Test.YtnnhnnhdoipbaaaDoorW1
import Derived.Test.YtnnhnnhdoipbaaaDoorW2
import Derived.Test.YtnnhnnhdoipbaaaDoorNoteW
set_option linter.unusedVariables false
set_option linter.unusedSimpArgs false
namespace Go.Proofs.YtnnhnnhdoipbaaaDoor.N_RBid
open Go.Sx Go.RowKit Go.Proofs.YtnnhnnhdoipbaaaDoor.N_Num Go.Proofs.YtnnhnnhdoipbaaaDoor.N_Read Go.Proofs.YtnnhnnhdoipbaaaDoor.N_Lay Go.Proofs.YtnnhnnhdoipbaaaDoor.N_Fields

theorem z_zeroN25 : zeroL Tryd.prog 25 = some ((.int .i64 0 :: (.int .i64 0 :: (.int .i64 0 :: (.int .i64 0 :: (List.replicate 32 (0 : UInt8)).map u8))))) := by kernel_rfl
theorem z_field25_0 : fieldB Tryd.prog 25 0 = some 0 := by kernel_rfl
theorem z_field25_1 : fieldB Tryd.prog 25 1 = some 1 := by kernel_rfl
theorem z_field25_2 : fieldB Tryd.prog 25 2 = some 2 := by kernel_rfl
theorem z_field25_3 : fieldB Tryd.prog 25 3 = some 3 := by kernel_rfl
theorem z_size80 : sizeB Tryd.prog 80 = some 1 := by kernel_rfl
theorem z_zero80 : zeroL Tryd.prog 80 = some ([.pointer none]) := by kernel_rfl
theorem z_call51 : callB Tryd.prog 51 = true := by kernel_rfl
theorem z_places25 : placesB Tryd.prog 25 = some [(0, 1), (1, 1), (2, 1), (3, 1), (4, 32)] := by kernel_rfl
theorem z_size25 : sizeB Tryd.prog 25 = some 36 := by kernel_rfl
theorem q_one_c4b32 {a0 a1 a2 a3 : Value} {t4 : List UInt8} (o0 : a0.oneCell' = true) (o1 : a1.oneCell' = true) (o2 : a2.oneCell' = true) (o3 : a3.oneCell' = true) : (a0 :: a1 :: a2 :: a3 :: t4.map u8).all (·.oneCell') = true := (one_c o0 (one_c o1 (one_c o2 (one_c o3 (one_u8 _)))))
theorem q_len_c4b32 {a0 a1 a2 a3 : Value} {t4 : List UInt8} (h4 : t4.length = 32) : (a0 :: a1 :: a2 :: a3 :: t4.map u8).length = 36 := (len_c (n := 35) (len_c (n := 34) (len_c (n := 33) (len_c (n := 32) (len_e (k := 32) h4)))))
theorem q_spl_c4b32_0_c4b32 {a0 a1 a2 a3 : Value} {t4 : List UInt8} {b0 b1 b2 b3 : Value} {s4 : List UInt8} (h4 : t4.length = 32) (g4 : s4.length = 32) : spl (a0 :: a1 :: a2 :: a3 :: t4.map u8) 0 (b0 :: b1 :: b2 :: b3 :: s4.map u8) = b0 :: b1 :: b2 :: b3 :: s4.map u8 := (spl_a (z := 36) (len_c (n := 35) (len_c (n := 34) (len_c (n := 33) (len_c (n := 32) (len_e (k := 32) h4))))) (len_c (n := 35) (len_c (n := 34) (len_c (n := 33) (len_c (n := 32) (len_e (k := 32) g4))))))
theorem z_agg25 : aggB Tryd.prog 25 = some true := by kernel_rfl
theorem z_size9 : sizeB Tryd.prog 9 = some 1 := by kernel_rfl
theorem z_agg9 : aggB Tryd.prog 9 = some false := by kernel_rfl
theorem q_ld_c4b32_0_36 {a0 a1 a2 a3 : Value} {t4 : List UInt8} (h4 : t4.length = 32) : ((a0 :: a1 :: a2 :: a3 :: t4.map u8).drop 0).take 36 = a0 :: a1 :: a2 :: a3 :: t4.map u8 := (ld_a (len_c (n := 35) (len_c (n := 34) (len_c (n := 33) (len_c (n := 32) (len_e (k := 32) h4))))))
theorem z_call34 : callB Tryd.prog 34 = true := by kernel_rfl
theorem z_agg23 : aggB Tryd.prog 23 = some true := by kernel_rfl
theorem z_size23 : sizeB Tryd.prog 23 = some 32 := by kernel_rfl
theorem z_field25_4 : fieldB Tryd.prog 25 4 = some 4 := by kernel_rfl
theorem q_one_b32 {t0 : List UInt8} : (t0.map u8).all (·.oneCell') = true := (one_u8 _)
theorem q_len_b32 {t0 : List UInt8} (h0 : t0.length = 32) : (t0.map u8).length = 32 := (len_e (k := 32) h0)
theorem q_spl_c4b32_4_b32 {a0 a1 a2 a3 : Value} {t4 : List UInt8} {s0 : List UInt8} (h4 : t4.length = 32) (g0 : s0.length = 32) : spl (a0 :: a1 :: a2 :: a3 :: t4.map u8) 4 (s0.map u8) = a0 :: a1 :: a2 :: a3 :: s0.map u8 := (spl_c (o := 3) (spl_c (o := 2) (spl_c (o := 1) (spl_c (o := 0) (spl_a (z := 32) (len_e (k := 32) h4) (len_e (k := 32) g0))))))

set_option maxRecDepth 100000 in
set_option maxHeartbeats 2000000 in
theorem nreadbid (s : List UInt8) (hs : s.length ≤ 140737488351232) {w : World}  : Calls Tryd.prog 26 #[str s] w (Gives (.tuple #[.agg (Note.Bid.cells (Note.readBid s).1).toArray, .int .i64 (Note.readBid s).2]) [] w) := by
  have lz32 : (List.replicate 32 (0 : UInt8)).length = 32 := List.length_replicate
  refine enterL (args := [str s]) Tryd.func26 rfl rfl (l := []) (Sep.refl _) ?_
  intro a0 H0
  refine wp_seq ?_
  refine reg ?_
  refine st_alloc rfl z_zeroN25 rfl rfl rfl H0 ?_
  clear H0; intro b1 a1 wx1 H1
  refine plain (y_assign rfl rfl) rfl rfl rfl H1 ?_
  clear H1; intro a2 H2
  refine fin ?_
  refine then_n ?_
  refine wp_seq ?_
  refine reg ?_
  refine st_alloc rfl z_zeroN25 rfl rfl rfl H2 ?_
  clear H2; intro b3 a3 wx3 H3
  refine fin ?_
  refine then_n ?_
  refine wp_seq ?_
  refine reg ?_
  refine plain (y_move rfl rfl) rfl rfl rfl H3 ?_
  clear H3; intro a4 H4
  refine plain (y_fieldB rfl z_field25_0 rfl (by first | (simp only [Nat.zero_add, Nat.add_zero, Nat.reduceAdd]; rfl) | rfl)) rfl rfl rfl H4 ?_
  clear H4; intro a5 H5
  refine plain (y_fieldB rfl z_field25_1 rfl (by first | (simp only [Nat.zero_add, Nat.add_zero, Nat.reduceAdd]; rfl) | rfl)) rfl rfl rfl H5 ?_
  clear H5; intro a6 H6
  refine plain (y_fieldB rfl z_field25_2 rfl (by first | (simp only [Nat.zero_add, Nat.add_zero, Nat.reduceAdd]; rfl) | rfl)) rfl rfl rfl H6 ?_
  clear H6; intro a7 H7
  refine plain (y_fieldB rfl z_field25_3 rfl (by first | (simp only [Nat.zero_add, Nat.add_zero, Nat.reduceAdd]; rfl) | rfl)) rfl rfl rfl H7 ?_
  clear H7; intro a8 H8
  refine st_buildSlice1 (xs := [.tmp 9, .tmp 10, .tmp 11, .tmp 12]) rfl Tryd.underlying90 z_size80 z_zero80 rfl rfl rfl rfl rfl rfl rfl rfl rfl H8 ?_
  clear H8; intro b9 a9 wx9 H9
  refine st_callw (i := It.blk b3 25 _) rfl z_call51 rfl rfl rfl rfl H9 (fun _ => (by repeat (first | exact Uh | apply Ut))) (nfields s (by omega) b3 25 (Note.Bid.cells Note.Bid.zero) 4 (by decide) (by decide) _ _ (H9.sep.all _ (by repeat (first | exact Mh | apply Mt))) (Rd.ofSep (rd_blkA (by repeat (first | exact Mh | apply Mt))) H9.sep) (by intro ad e; injection e with e; subst e; exact fun h => (blk_row_ne H9.sep (by first | exact S0 | exact S1 | repeat (first | exact S1 | exact S0 | apply S2 | apply S3))) h)) ?_
  clear H9; intro v10 i10 R10 a10 wx10 hf10 H10
  obtain ⟨cs', rfl, hf10⟩ := hf10
  rcases hf10 with ⟨ns, A', c', L, hfs, rfl, hnl, rfl, hkL, hLx, hLc, rfl, hnr, hLb⟩ | ⟨hfs, rfl, rfl⟩
  · skip
    obtain ⟨n0, n1, n2, n3, rfl⟩ := Note.four hnl
    simp only [List.cons_append, List.nil_append] at H10
    refine plain (y_move rfl rfl) rfl rfl rfl H10 ?_
    clear H10; intro a11 H11
    refine plain (y_extract rfl rfl rfl) rfl rfl rfl H11 ?_
    clear H11; intro a12 H12
    refine plain (y_extract rfl rfl rfl) rfl rfl rfl H12 ?_
    clear H12; intro a13 H13
    refine plain (y_assign rfl rfl) rfl rfl rfl H13 ?_
    clear H13; intro a14 H14
    refine plain (y_assign rfl rfl) rfl rfl rfl H14 ?_
    clear H14; intro a15 H15
    refine fin ?_
    refine then_n ?_
    refine wp_seq ?_
    refine wp_seq ?_
    refine reg ?_
    refine plain (y_move rfl rfl) rfl rfl rfl H15 ?_
    clear H15; intro a16 H16
    refine plain (y_not rfl rfl) rfl rfl rfl H16 ?_
    clear H16; intro a17 H17
    refine plain (y_move rfl rfl) rfl rfl rfl H17 ?_
    clear H17; intro a18 H18
    refine plain (y_move rfl rfl) rfl rfl rfl H18 ?_
    clear H18; intro a19 H19
    refine plain (y_len rfl Tryd.underlying49 rfl) rfl rfl rfl H19 ?_
    clear H19; intro a20 H20
    refine plain (y_neq rfl rfl rfl) rfl rfl rfl H20 ?_
    clear H20; intro a21 H21
    refine plain (y_pick_f rfl rfl rfl) rfl rfl rfl H21 ?_
    clear H21; intro a22 H22
    refine plain (y_move rfl rfl) rfl rfl rfl H22 ?_
    clear H22; intro a23 H23
    refine Sx.part (d := 24) H23 rfl (fun hg24 => ?_) (fun hg24 => ?_)
    · first
      | fail
      | skip
        clear H23; intro H25
        try simp only [decide_eq_true_eq, decide_eq_false_iff_not, Bool.not_eq_true', Bool.not_eq_false', Bool.and_eq_true, Bool.not_eq_true, Bool.not_eq_false] at hg24
        refine skip rfl rfl rfl H25 ?_
        clear H25; intro a26 H26
        refine skip rfl rfl rfl H26 ?_
        clear H26; intro a27 H27
        refine skip rfl rfl rfl H27 ?_
        clear H27; intro a28 H28
        refine skip rfl rfl rfl H28 ?_
        clear H28; intro a29 H29
        refine skip rfl rfl rfl H29 ?_
        clear H29; intro a30 H30
        refine plain (y_pick_t rfl rfl rfl) rfl rfl rfl H30 ?_
        clear H30; intro a31 H31
        refine plain (y_move rfl rfl) rfl rfl rfl H31 ?_
        clear H31; intro a32 H32
        refine skip rfl rfl rfl H32 ?_
        clear H32; intro a33 H33
        refine skip rfl rfl rfl H33 ?_
        clear H33; intro a34 H34
        refine skip rfl rfl rfl H34 ?_
        clear H34; intro a35 H35
        refine plain (y_pick_t rfl rfl rfl) rfl rfl rfl H35 ?_
        clear H35; intro a36 H36
        refine fin ?_
        refine then_n ?_
        refine cnd_t H36 rfl ?_
        refine wp_seq ?_
        refine reg ?_
        refine plain (y_build rfl z_zeroN25 z_places25 rfl lay_n) rfl rfl rfl H36 ?_
        clear H36; intro a38 H38
        refine st_storeN rfl z_size25 rfl rfl (agg_cells _) (by repeat (first | exact Uh | apply Ut)) (q_one_c4b32 rfl rfl rfl rfl) (q_len_c4b32 (by assumption)) (q_len_c4b32 (by assumption)) (q_spl_c4b32_0_c4b32 (by assumption) (by assumption)) (by decide) rfl rfl H38 ?_
        clear H38; intro wx39 H39
        refine plain (y_assign rfl rfl) rfl rfl rfl H39 ?_
        clear H39; intro a40 H40
        refine fin ?_
        refine then_n ?_
        refine wp_ret ?_
        refine then_r ?_
        -- return 1
        refine retct rfl H40 rfl z_agg25 z_size25 (by repeat (first | exact Mh | apply Mt)) (q_len_c4b32 (by assumption)) rfl ?_
        refine ⟨_, [], rfl, ⟨?_, rfl⟩, H40.sep.sub (List.nil_sublist _)⟩
        first | (rw [Note.readBid_none hfs]; rfl) | (rw [Note.readBid_bad hfs (by rintro ⟨h1, h2, h3⟩; simp only [List.length_drop] at h1; first | omega | (have h4 : (⟨n0, n1, n2, n3, Note.Z⟩ : Note.Bid).ok = true := h3; simp_all; done))]; rfl) | (rw [Note.readBid_good hfs ⟨by simp only [List.length_drop]; omega, by omega, (show (⟨n0, n1, n2, n3, Note.Z⟩ : Note.Bid).ok = true by assumption)⟩]; rfl)
    · first
      | fail
      | skip
        clear H23; intro H41
        try simp only [decide_eq_true_eq, decide_eq_false_iff_not, Bool.not_eq_true', Bool.not_eq_false', Bool.and_eq_true, Bool.not_eq_true, Bool.not_eq_false] at hg24
        refine plain (y_move rfl rfl) rfl rfl rfl H41 ?_
        clear H41; intro a42 H42
        refine plain (y_ixR rfl Tryd.underlying49 z_size9 rfl rfl (by omega) (by omega) (fun w hs => (rd_row (by repeat (first | exact Mh | apply Mt)) w hs).drop 4 (c' = 4) (fun h => by rw [List.length_map]; omega)) (by rw [List.length_drop, List.length_map]; omega)) rfl rfl rfl H42 ?_
        clear H42; intro a43 H43
        refine plain (y_loadR rfl z_agg9 rfl (fun w hs => (rd_row (by repeat (first | exact Mh | apply Mt)) w hs).drop 4 (c' = 4) (fun h => by rw [List.length_map]; omega)) (Note.rest_get 4 0 (by omega))) rfl rfl rfl H43 ?_
        clear H43; intro a44 H44
        refine plain (y_slen rfl Tryd.underlying9 rfl) rfl rfl rfl H44 ?_
        clear H44; intro a45 H45
        refine plain (y_neq rfl rfl rfl) rfl rfl rfl H45 ?_
        clear H45; intro a46 H46
        refine plain (y_pick_f rfl rfl rfl) rfl rfl rfl H46 ?_
        clear H46; intro a47 H47
        refine plain (y_move rfl rfl) rfl rfl rfl H47 ?_
        clear H47; intro a48 H48
        refine Sx.part (d := 31) H48 rfl (fun hg49 => ?_) (fun hg49 => ?_)
        · first
          | fail
          | skip
            clear H48; intro H50
            try simp only [decide_eq_true_eq, decide_eq_false_iff_not, Bool.not_eq_true', Bool.not_eq_false', Bool.and_eq_true, Bool.not_eq_true, Bool.not_eq_false] at hg49
            refine skip rfl rfl rfl H50 ?_
            clear H50; intro a51 H51
            refine skip rfl rfl rfl H51 ?_
            clear H51; intro a52 H52
            refine skip rfl rfl rfl H52 ?_
            clear H52; intro a53 H53
            refine plain (y_pick_t rfl rfl rfl) rfl rfl rfl H53 ?_
            clear H53; intro a54 H54
            refine fin ?_
            refine then_n ?_
            refine cnd_t H54 rfl ?_
            refine wp_seq ?_
            refine reg ?_
            refine plain (y_build rfl z_zeroN25 z_places25 rfl lay_n) rfl rfl rfl H54 ?_
            clear H54; intro a56 H56
            refine st_storeN rfl z_size25 rfl rfl (agg_cells _) (by repeat (first | exact Uh | apply Ut)) (q_one_c4b32 rfl rfl rfl rfl) (q_len_c4b32 (by assumption)) (q_len_c4b32 (by assumption)) (q_spl_c4b32_0_c4b32 (by assumption) (by assumption)) (by decide) rfl rfl H56 ?_
            clear H56; intro wx57 H57
            refine plain (y_assign rfl rfl) rfl rfl rfl H57 ?_
            clear H57; intro a58 H58
            refine fin ?_
            refine then_n ?_
            refine wp_ret ?_
            refine then_r ?_
            -- return 2
            refine retct rfl H58 rfl z_agg25 z_size25 (by repeat (first | exact Mh | apply Mt)) (q_len_c4b32 (by assumption)) rfl ?_
            refine ⟨_, [], rfl, ⟨?_, rfl⟩, H58.sep.sub (List.nil_sublist _)⟩
            first | (rw [Note.readBid_none hfs]; rfl) | (rw [Note.readBid_bad hfs (by rintro ⟨h1, h2, h3⟩; simp only [List.length_drop] at h1; first | omega | (have h4 : (⟨n0, n1, n2, n3, Note.Z⟩ : Note.Bid).ok = true := h3; simp_all; done))]; rfl) | (rw [Note.readBid_good hfs ⟨by simp only [List.length_drop]; omega, by omega, (show (⟨n0, n1, n2, n3, Note.Z⟩ : Note.Bid).ok = true by assumption)⟩]; rfl)
        · first
          | fail
          | skip
            clear H48; intro H59
            try simp only [decide_eq_true_eq, decide_eq_false_iff_not, Bool.not_eq_true', Bool.not_eq_false', Bool.and_eq_true, Bool.not_eq_true, Bool.not_eq_false] at hg49
            refine plain (y_loadAB rfl z_agg25 z_size25 rfl (by repeat (first | exact Mh | apply Mt)) (q_ld_c4b32_0_36 (by assumption)) (q_len_c4b32 (by assumption))) rfl rfl rfl H59 ?_
            clear H59; intro a60 H60
            refine st_callg rfl z_call34 rfl rfl rfl rfl H60 (nbid (⟨n0, n1, n2, n3, Note.Z⟩ : Note.Bid) (Note.wf4 hnr rfl) _) ?_
            clear H60; intro a61 wx61 H61
            refine plain ((by first | exact y_not_d rfl rfl | exact y_not rfl rfl)) rfl rfl rfl H61 ?_
            clear H61; intro a62 H62
            refine plain (y_pick_f rfl rfl rfl) rfl rfl rfl H62 ?_
            clear H62; intro a63 H63
            refine fin ?_
            refine then_n ?_
            refine cnd H63 rfl (fun hc64 => ?_) (fun hc64 => ?_) -- cond 3
            · skip
              try simp only [decide_eq_true_eq, decide_eq_false_iff_not, Bool.not_eq_true', Bool.not_eq_false', Bool.and_eq_true, Bool.not_eq_true, Bool.not_eq_false] at hc64
              refine wp_seq ?_
              refine reg ?_
              refine plain (y_build rfl z_zeroN25 z_places25 rfl lay_n) rfl rfl rfl H63 ?_
              clear H63; intro a65 H65
              refine st_storeN rfl z_size25 rfl rfl (agg_cells _) (by repeat (first | exact Uh | apply Ut)) (q_one_c4b32 rfl rfl rfl rfl) (q_len_c4b32 (by assumption)) (q_len_c4b32 (by assumption)) (q_spl_c4b32_0_c4b32 (by assumption) (by assumption)) (by decide) rfl rfl H65 ?_
              clear H65; intro wx66 H66
              refine plain (y_assign rfl rfl) rfl rfl rfl H66 ?_
              clear H66; intro a67 H67
              refine fin ?_
              refine then_n ?_
              refine wp_ret ?_
              refine then_r ?_
              -- return 3
              refine retct rfl H67 rfl z_agg25 z_size25 (by repeat (first | exact Mh | apply Mt)) (q_len_c4b32 (by assumption)) rfl ?_
              refine ⟨_, [], rfl, ⟨?_, rfl⟩, H67.sep.sub (List.nil_sublist _)⟩
              first | (rw [Note.readBid_none hfs]; rfl) | (rw [Note.readBid_bad hfs (by rintro ⟨h1, h2, h3⟩; simp only [List.length_drop] at h1; first | omega | (have h4 : (⟨n0, n1, n2, n3, Note.Z⟩ : Note.Bid).ok = true := h3; simp_all; done))]; rfl) | (rw [Note.readBid_good hfs ⟨by simp only [List.length_drop]; omega, by omega, (show (⟨n0, n1, n2, n3, Note.Z⟩ : Note.Bid).ok = true by assumption)⟩]; rfl)
            · skip
              try simp only [decide_eq_true_eq, decide_eq_false_iff_not, Bool.not_eq_true', Bool.not_eq_false', Bool.and_eq_true, Bool.not_eq_true, Bool.not_eq_false] at hc64
              refine wp_skip ?_
              refine then_n ?_
              refine wp_seq ?_
              refine reg ?_
              refine plain (y_move rfl rfl) rfl rfl rfl H63 ?_
              clear H63; intro a68 H68
              refine plain (y_ixR rfl Tryd.underlying49 z_size9 rfl rfl (by omega) (by omega) (fun w hs => (rd_row (by repeat (first | exact Mh | apply Mt)) w hs).drop 4 (c' = 4) (fun h => by rw [List.length_map]; omega)) (by rw [List.length_drop, List.length_map]; omega)) rfl rfl rfl H68 ?_
              clear H68; intro a69 H69
              refine plain (y_loadR rfl z_agg9 rfl (fun w hs => (rd_row (by repeat (first | exact Mh | apply Mt)) w hs).drop 4 (c' = 4) (fun h => by rw [List.length_map]; omega)) (Note.rest_get 4 0 (by omega))) rfl rfl rfl H69 ?_
              clear H69; intro a70 H70
              have hl32 : ((L.drop 4).getD 0 []).length = 32 := by omega
              refine st_strb rfl Tryd.underlying9 Tryd.underlying64 Tryd.underlying5 rfl (by unfold maxLen; omega) rfl rfl rfl H70 ?_
              clear H70; intro v71 a71 wx71 H71
              obtain ⟨Ar71, cr71, hvr71, hRr71, hmr71⟩ := row_shape (v := v71) H71.sep (by repeat (first | exact Mh | apply Mt))
              subst hvr71
              refine plain (y_s2a rfl Tryd.underlying23 rfl (by omega)) rfl rfl rfl H71 ?_
              clear H71; intro a72 H72
              refine plain (y_loadAP rfl z_agg23 z_size23 rfl (rd_row (by repeat (first | exact Mh | apply Mt))) (List.take_of_length_le (by rw [List.length_map]; omega)) (len_e (by assumption)) (by decide)) rfl rfl rfl H72 ?_
              clear H72; intro a73 H73
              refine plain (y_fieldB rfl z_field25_4 rfl (by first | (simp only [Nat.zero_add, Nat.add_zero, Nat.reduceAdd]; rfl) | rfl)) rfl rfl rfl H73 ?_
              clear H73; intro a74 H74
              refine st_storeN rfl z_size23 rfl rfl (agg_cells _) (by repeat (first | exact Uh | apply Ut)) q_one_b32 (q_len_b32 (by assumption)) (q_len_c4b32 (by assumption)) (q_spl_c4b32_4_b32 (by assumption) (by assumption)) (by decide) rfl rfl H74 ?_
              clear H74; intro wx75 H75
              refine fin ?_
              refine then_n ?_
              refine wp_seq ?_
              refine reg ?_
              refine plain (y_loadAB rfl z_agg25 z_size25 rfl (by repeat (first | exact Mh | apply Mt)) (q_ld_c4b32_0_36 (by assumption)) (q_len_c4b32 (by assumption))) rfl rfl rfl H75 ?_
              clear H75; intro a76 H76
              refine st_storeN rfl z_size25 rfl rfl (agg_cells _) (by repeat (first | exact Uh | apply Ut)) (q_one_c4b32 rfl rfl rfl rfl) (q_len_c4b32 (by assumption)) (q_len_c4b32 (by assumption)) (q_spl_c4b32_0_c4b32 (by assumption) (by assumption)) (by decide) rfl rfl H76 ?_
              clear H76; intro wx77 H77
              refine plain (y_assign rfl rfl) rfl rfl rfl H77 ?_
              clear H77; intro a78 H78
              refine fin ?_
              refine then_n ?_
              refine wp_ret ?_
              -- return 4
              refine retct rfl H78 rfl z_agg25 z_size25 (by repeat (first | exact Mh | apply Mt)) (q_len_c4b32 (by assumption)) rfl ?_
              refine ⟨_, [], rfl, ⟨?_, rfl⟩, H78.sep.sub (List.nil_sublist _)⟩
              first | (rw [Note.readBid_none hfs]; rfl) | (rw [Note.readBid_bad hfs (by rintro ⟨h1, h2, h3⟩; simp only [List.length_drop] at h1; first | omega | (have h4 : (⟨n0, n1, n2, n3, Note.Z⟩ : Note.Bid).ok = true := h3; simp_all; done))]; rfl) | (rw [Note.readBid_good hfs ⟨by simp only [List.length_drop]; omega, by omega, (show (⟨n0, n1, n2, n3, Note.Z⟩ : Note.Bid).ok = true by assumption)⟩]; rfl)
  · skip
    simp only [List.nil_append] at H10
    refine plain (y_move rfl rfl) rfl rfl rfl H10 ?_
    clear H10; intro a79 H79
    refine plain (y_extract rfl rfl rfl) rfl rfl rfl H79 ?_
    clear H79; intro a80 H80
    refine plain (y_extract rfl rfl rfl) rfl rfl rfl H80 ?_
    clear H80; intro a81 H81
    refine plain (y_assign rfl rfl) rfl rfl rfl H81 ?_
    clear H81; intro a82 H82
    refine plain (y_assign rfl rfl) rfl rfl rfl H82 ?_
    clear H82; intro a83 H83
    refine fin ?_
    refine then_n ?_
    refine wp_seq ?_
    refine wp_seq ?_
    refine reg ?_
    refine plain (y_move rfl rfl) rfl rfl rfl H83 ?_
    clear H83; intro a84 H84
    refine plain (y_not rfl rfl) rfl rfl rfl H84 ?_
    clear H84; intro a85 H85
    refine plain (y_move rfl rfl) rfl rfl rfl H85 ?_
    clear H85; intro a86 H86
    refine skip rfl rfl rfl H86 ?_
    clear H86; intro a87 H87
    refine skip rfl rfl rfl H87 ?_
    clear H87; intro a88 H88
    refine skip rfl rfl rfl H88 ?_
    clear H88; intro a89 H89
    refine plain (y_pick_t rfl rfl rfl) rfl rfl rfl H89 ?_
    clear H89; intro a90 H90
    refine plain (y_move rfl rfl) rfl rfl rfl H90 ?_
    clear H90; intro a91 H91
    refine skip rfl rfl rfl H91 ?_
    clear H91; intro a92 H92
    refine skip rfl rfl rfl H92 ?_
    clear H92; intro a93 H93
    refine skip rfl rfl rfl H93 ?_
    clear H93; intro a94 H94
    refine skip rfl rfl rfl H94 ?_
    clear H94; intro a95 H95
    refine skip rfl rfl rfl H95 ?_
    clear H95; intro a96 H96
    refine plain (y_pick_t rfl rfl rfl) rfl rfl rfl H96 ?_
    clear H96; intro a97 H97
    refine plain (y_move rfl rfl) rfl rfl rfl H97 ?_
    clear H97; intro a98 H98
    refine skip rfl rfl rfl H98 ?_
    clear H98; intro a99 H99
    refine skip rfl rfl rfl H99 ?_
    clear H99; intro a100 H100
    refine skip rfl rfl rfl H100 ?_
    clear H100; intro a101 H101
    refine plain (y_pick_t rfl rfl rfl) rfl rfl rfl H101 ?_
    clear H101; intro a102 H102
    refine fin ?_
    refine then_n ?_
    refine cnd_t H102 rfl ?_
    refine wp_seq ?_
    refine reg ?_
    refine plain (y_build rfl z_zeroN25 z_places25 rfl lay_n) rfl rfl rfl H102 ?_
    clear H102; intro a104 H104
    refine st_storeN rfl z_size25 rfl rfl (agg_cells _) (by repeat (first | exact Uh | apply Ut)) (q_one_c4b32 rfl rfl rfl rfl) (q_len_c4b32 (by assumption)) (q_len_c4b32 (by assumption)) (q_spl_c4b32_0_c4b32 (by assumption) (by assumption)) (by decide) rfl rfl H104 ?_
    clear H104; intro wx105 H105
    refine plain (y_assign rfl rfl) rfl rfl rfl H105 ?_
    clear H105; intro a106 H106
    refine fin ?_
    refine then_n ?_
    refine wp_ret ?_
    refine then_r ?_
    -- return 5
    refine retct rfl H106 rfl z_agg25 z_size25 (by repeat (first | exact Mh | apply Mt)) (q_len_c4b32 (by assumption)) rfl ?_
    refine ⟨_, [], rfl, ⟨?_, rfl⟩, H106.sep.sub (List.nil_sublist _)⟩
    first | (rw [Note.readBid_none hfs]; rfl) | (rw [Note.readBid_bad hfs (by rintro ⟨h1, h2, h3⟩; simp only [List.length_drop] at h1; first | omega | (have h4 : (⟨n0, n1, n2, n3, Note.Z⟩ : Note.Bid).ok = true := h3; simp_all; done))]; rfl) | (rw [Note.readBid_good hfs ⟨by simp only [List.length_drop]; omega, by omega, (show (⟨n0, n1, n2, n3, Note.Z⟩ : Note.Bid).ok = true by assumption)⟩]; rfl)

end Go.Proofs.YtnnhnnhdoipbaaaDoor.N_RBid

set_option linter.unusedVariables false
set_option linter.unusedSimpArgs false
namespace Go.Proofs.YtnnhnnhdoipbaaaDoor.N_Sign
open Go.Sx Go.RowKit Go.Proofs.YtnnhnnhdoipbaaaDoor.N_Block Go.Proofs.YtnnhnnhdoipbaaaDoor.N_Sum Go.Proofs.YtnnhnnhdoipbaaaDoor.N_Ref Go.Proofs.YtnnhnnhdoipbaaaDoor.N_RSum Go.Proofs.YtnnhnnhdoipbaaaDoor.N_Leaf Go.Proofs.YtnnhnnhdoipbaaaDoor.N_Num Go.Proofs.YtnnhnnhdoipbaaaDoor.N_Key Go.Proofs.YtnnhnnhdoipbaaaDoor.N_Lay

theorem z_zeroN23 : zeroL Tryd.prog 23 = some ((List.replicate 32 (0 : UInt8)).map u8) := by kernel_rfl
theorem z_agg25 : aggB Tryd.prog 25 = some true := by kernel_rfl
theorem z_size25 : sizeB Tryd.prog 25 = some 36 := by kernel_rfl
theorem q_ld_c4b32_0_36 {a0 a1 a2 a3 : Value} {t4 : List UInt8} (h4 : t4.length = 32) : ((a0 :: a1 :: a2 :: a3 :: t4.map u8).drop 0).take 36 = a0 :: a1 :: a2 :: a3 :: t4.map u8 := (ld_a (len_c (n := 35) (len_c (n := 34) (len_c (n := 33) (len_c (n := 32) (len_e (k := 32) h4))))))
theorem q_len_c4b32 {a0 a1 a2 a3 : Value} {t4 : List UInt8} (h4 : t4.length = 32) : (a0 :: a1 :: a2 :: a3 :: t4.map u8).length = 36 := (len_c (n := 35) (len_c (n := 34) (len_c (n := 33) (len_c (n := 32) (len_e (k := 32) h4)))))
theorem z_call34 : callB Tryd.prog 34 = true := by kernel_rfl
theorem z_size5 : sizeB Tryd.prog 5 = some 1 := by kernel_rfl
theorem z_size23 : sizeB Tryd.prog 23 = some 32 := by kernel_rfl
theorem q_one_b32 {t0 : List UInt8} : (t0.map u8).all (·.oneCell') = true := (one_u8 _)
theorem q_len_b32 {t0 : List UInt8} (h0 : t0.length = 32) : (t0.map u8).length = 32 := (len_e (k := 32) h0)
theorem q_spl_b32_0_b32 {t0 : List UInt8} {s0 : List UInt8} (h0 : t0.length = 32) (g0 : s0.length = 32) : spl (t0.map u8) 0 (s0.map u8) = s0.map u8 := (spl_a (z := 32) (len_e (k := 32) h0) (len_e (k := 32) g0))
theorem z_agg23 : aggB Tryd.prog 23 = some true := by kernel_rfl
theorem z_field25_0 : fieldB Tryd.prog 25 0 = some 0 := by kernel_rfl
theorem z_agg3 : aggB Tryd.prog 3 = some false := by kernel_rfl
theorem q_ix_c4b32_0 {a0 a1 a2 a3 : Value} {t4 : List UInt8} : (a0 :: a1 :: a2 :: a3 :: t4.map u8)[0]? = some a0 := ix_0
theorem z_field25_1 : fieldB Tryd.prog 25 1 = some 1 := by kernel_rfl
theorem q_ix_c4b32_1 {a0 a1 a2 a3 : Value} {t4 : List UInt8} : (a0 :: a1 :: a2 :: a3 :: t4.map u8)[1]? = some a1 := (ix_c (o := 0) ix_0)
theorem z_field25_2 : fieldB Tryd.prog 25 2 = some 2 := by kernel_rfl
theorem q_ix_c4b32_2 {a0 a1 a2 a3 : Value} {t4 : List UInt8} : (a0 :: a1 :: a2 :: a3 :: t4.map u8)[2]? = some a2 := (ix_c (o := 1) (ix_c (o := 0) ix_0))
theorem z_field25_3 : fieldB Tryd.prog 25 3 = some 3 := by kernel_rfl
theorem q_ix_c4b32_3 {a0 a1 a2 a3 : Value} {t4 : List UInt8} : (a0 :: a1 :: a2 :: a3 :: t4.map u8)[3]? = some a3 := (ix_c (o := 2) (ix_c (o := 1) (ix_c (o := 0) ix_0)))
theorem z_size3 : sizeB Tryd.prog 3 = some 1 := by kernel_rfl
theorem z_zero3 : zeroL Tryd.prog 3 = some ([.int .i64 0]) := by kernel_rfl
theorem z_call36 : callB Tryd.prog 36 = true := by kernel_rfl
theorem z_call35 : callB Tryd.prog 35 = true := by kernel_rfl
theorem z_call59 : callB Tryd.prog 59 = true := by kernel_rfl
theorem z_zeroN25 : zeroL Tryd.prog 25 = some ((.int .i64 0 :: (.int .i64 0 :: (.int .i64 0 :: (.int .i64 0 :: (List.replicate 32 (0 : UInt8)).map u8))))) := by kernel_rfl
theorem z_call41 : callB Tryd.prog 41 = true := by kernel_rfl
theorem z_places25 : placesB Tryd.prog 25 = some [(0, 1), (1, 1), (2, 1), (3, 1), (4, 32)] := by kernel_rfl
theorem q_one_c4b32 {a0 a1 a2 a3 : Value} {t4 : List UInt8} (o0 : a0.oneCell' = true) (o1 : a1.oneCell' = true) (o2 : a2.oneCell' = true) (o3 : a3.oneCell' = true) : (a0 :: a1 :: a2 :: a3 :: t4.map u8).all (·.oneCell') = true := (one_c o0 (one_c o1 (one_c o2 (one_c o3 (one_u8 _)))))
theorem q_spl_c4b32_0_c4b32 {a0 a1 a2 a3 : Value} {t4 : List UInt8} {b0 b1 b2 b3 : Value} {s4 : List UInt8} (h4 : t4.length = 32) (g4 : s4.length = 32) : spl (a0 :: a1 :: a2 :: a3 :: t4.map u8) 0 (b0 :: b1 :: b2 :: b3 :: s4.map u8) = b0 :: b1 :: b2 :: b3 :: s4.map u8 := (spl_a (z := 36) (len_c (n := 35) (len_c (n := 34) (len_c (n := 33) (len_c (n := 32) (len_e (k := 32) h4))))) (len_c (n := 35) (len_c (n := 34) (len_c (n := 33) (len_c (n := 32) (len_e (k := 32) g4))))))
theorem q_ld_b32_0_32 {t0 : List UInt8} (h0 : t0.length = 32) : ((t0.map u8).drop 0).take 32 = t0.map u8 := (ld_a (len_e (k := 32) h0))
theorem z_field25_4 : fieldB Tryd.prog 25 4 = some 4 := by kernel_rfl
theorem q_spl_c4b32_4_b32 {a0 a1 a2 a3 : Value} {t4 : List UInt8} {s0 : List UInt8} (h4 : t4.length = 32) (g0 : s0.length = 32) : spl (a0 :: a1 :: a2 :: a3 :: t4.map u8) 4 (s0.map u8) = a0 :: a1 :: a2 :: a3 :: s0.map u8 := (spl_c (o := 3) (spl_c (o := 2) (spl_c (o := 1) (spl_c (o := 0) (spl_a (z := 32) (len_e (k := 32) h4) (len_e (k := 32) g0))))))
theorem q_ld_c4b32_4_32 {a0 a1 a2 a3 : Value} {t4 : List UInt8} (h4 : t4.length = 32) : ((a0 :: a1 :: a2 :: a3 :: t4.map u8).drop 4).take 32 = t4.map u8 := (ld_c (o := 3) (ld_c (o := 2) (ld_c (o := 1) (ld_c (o := 0) (ld_a (len_e (k := 32) h4))))))

set_option maxRecDepth 100000 in
set_option maxHeartbeats 1000000 in
theorem ntag (b : Note.Bid) (wf : Note.Bid.Wf b) {w : World} (hG : Glob 0 Sha.K w) : Calls Tryd.prog 41 #[.agg (Note.Bid.cells b).toArray] w (Gives (.tuple #[.agg ((if b.ok then (Seal.tag b.who 3 b.said).1 else Note.Z).map u8).toArray, .int .i64 (if b.ok then 0 else 2)]) [] w) := by
  have lz32 : (List.replicate 32 (0 : UInt8)).length = 32 := List.length_replicate
  have lz0 := wf.tag
  refine enterL (args := [.agg (Note.Bid.cells b).toArray]) Tryd.func41 rfl rfl (l := []) (Sep.refl _) ?_
  intro a0 H0
  refine wp_seq ?_
  refine reg ?_
  refine st_box rfl rfl (agg_cells _) rfl rfl rfl H0 ?_
  clear H0; intro b1 a1 wx1 H1
  refine st_alloc rfl z_zeroN23 rfl rfl rfl H1 ?_
  clear H1; intro b2 a2 wx2 H2
  refine plain (y_assign rfl rfl) rfl rfl rfl H2 ?_
  clear H2; intro a3 H3
  refine fin ?_
  refine then_n ?_
  refine wp_seq ?_
  refine wp_seq ?_
  refine reg ?_
  refine plain (y_loadAB rfl z_agg25 z_size25 rfl (by repeat (first | exact Mh | apply Mt)) (q_ld_c4b32_0_36 (by first | assumption | exact Seal.tag_len _ _ _)) (q_len_c4b32 (by first | assumption | exact Seal.tag_len _ _ _))) rfl rfl rfl H3 ?_
  clear H3; intro a4 H4
  refine st_callg rfl z_call34 rfl rfl rfl rfl H4 (nbid b wf _) ?_
  clear H4; intro a5 wx5 H5
  refine plain ((by first | exact y_not_d rfl rfl | exact y_not rfl rfl)) rfl rfl rfl H5 ?_
  clear H5; intro a6 H6
  refine fin ?_
  refine then_n ?_
  refine cnd H6 rfl (fun hc7 => ?_) (fun hc7 => ?_) -- cond 1
  · skip
    try simp only [decide_eq_true_eq, decide_eq_false_iff_not, Bool.not_eq_true', Bool.not_eq_false', Bool.and_eq_true, Bool.not_eq_true, Bool.not_eq_false] at hc7
    have hk := hc7
    refine wp_seq ?_
    refine reg ?_
    refine plain (y_buildA rfl z_zeroN23 Tryd.underlying23 z_size5 rfl lay_n) rfl rfl rfl H6 ?_
    clear H6; intro a8 H8
    refine st_storeN rfl z_size23 rfl rfl (agg_cells _) (by repeat (first | exact Uh | apply Ut)) q_one_b32 (q_len_b32 (by first | assumption | exact Seal.tag_len _ _ _)) (q_len_b32 (by first | assumption | exact Seal.tag_len _ _ _)) (q_spl_b32_0_b32 (by first | assumption | exact Seal.tag_len _ _ _) (by first | assumption | exact Seal.tag_len _ _ _)) (by decide) rfl rfl H8 ?_
    clear H8; intro wx9 H9
    refine plain (y_assign rfl rfl) rfl rfl rfl H9 ?_
    clear H9; intro a10 H10
    refine fin ?_
    refine then_n ?_
    refine wp_ret ?_
    refine then_r ?_
    -- return 1
    refine retct rfl H10 rfl z_agg23 z_size23 (by repeat (first | exact Mh | apply Mt)) (q_len_b32 (by first | assumption | exact Seal.tag_len _ _ _)) rfl ?_
    refine ⟨_, [], rfl, ⟨?_, rfl⟩, H10.sep.sub (List.nil_sublist _)⟩
    rw [hk]
    rfl
  · skip
    try simp only [decide_eq_true_eq, decide_eq_false_iff_not, Bool.not_eq_true', Bool.not_eq_false', Bool.and_eq_true, Bool.not_eq_true, Bool.not_eq_false] at hc7
    have hk := hc7
    refine wp_skip ?_
    refine then_n ?_
    refine wp_seq ?_
    refine reg ?_
    refine plain (y_fieldB rfl z_field25_0 rfl (by first | (simp only [Nat.zero_add, Nat.add_zero, Nat.reduceAdd]; rfl) | rfl)) rfl rfl rfl H6 ?_
    clear H6; intro a11 H11
    refine plain (y_loadB rfl z_agg3 rfl (by repeat (first | exact Mh | apply Mt)) q_ix_c4b32_0) rfl rfl rfl H11 ?_
    clear H11; intro a12 H12
    refine plain (y_fieldB rfl z_field25_1 rfl (by first | (simp only [Nat.zero_add, Nat.add_zero, Nat.reduceAdd]; rfl) | rfl)) rfl rfl rfl H12 ?_
    clear H12; intro a13 H13
    refine plain (y_loadB rfl z_agg3 rfl (by repeat (first | exact Mh | apply Mt)) q_ix_c4b32_1) rfl rfl rfl H13 ?_
    clear H13; intro a14 H14
    refine plain (y_fieldB rfl z_field25_2 rfl (by first | (simp only [Nat.zero_add, Nat.add_zero, Nat.reduceAdd]; rfl) | rfl)) rfl rfl rfl H14 ?_
    clear H14; intro a15 H15
    refine plain (y_loadB rfl z_agg3 rfl (by repeat (first | exact Mh | apply Mt)) q_ix_c4b32_2) rfl rfl rfl H15 ?_
    clear H15; intro a16 H16
    refine plain (y_fieldB rfl z_field25_3 rfl (by first | (simp only [Nat.zero_add, Nat.add_zero, Nat.reduceAdd]; rfl) | rfl)) rfl rfl rfl H16 ?_
    clear H16; intro a17 H17
    refine plain (y_loadB rfl z_agg3 rfl (by repeat (first | exact Mh | apply Mt)) q_ix_c4b32_3) rfl rfl rfl H17 ?_
    clear H17; intro a18 H18
    refine st_buildSlice1 (xs := [.tmp 12, .tmp 14, .tmp 16, .tmp 18]) rfl Tryd.underlying83 z_size3 z_zero3 rfl rfl rfl rfl rfl rfl rfl rfl rfl H18 ?_
    clear H18; intro b19 a19 wx19 H19
    refine st_call rfl z_call36 rfl rfl rfl rfl H19 (nlay [b.round, b.who, b.amount, b.salt] _ _ _ rfl (by simp) (by intro x hx; simp only [List.mem_cons, List.not_mem_nil, or_false] at hx; rcases hx with rfl | rfl | rfl | rfl <;> first | exact wf.round.2 | exact wf.who.2 | exact wf.amount.2 | exact wf.salt.2) (Rd.ofSep (rd_blkA (by repeat (first | exact Mh | apply Mt))) H19.sep)) ?_
    clear H19; intro v20 l20 a20 wx20 hf20 H20
    obtain rfl := hf20
    simp only [List.cons_append, List.nil_append] at H20
    obtain ⟨Ar20, cr20, hvr20, hRr20, hmr20⟩ := row_shape (v := v20) H20.sep (by repeat (first | exact Mh | apply Mt))
    subst hvr20
    refine st_callg rfl z_call35 rfl rfl rfl rfl H20 (nwrite [Note.num b.round, Note.num b.who, Note.num b.amount, Note.num b.salt] _ _ _ rfl (Rd.ofSep (rd_row (by repeat (first | exact Mh | apply Mt))) H20.sep) (by simp)) ?_
    clear H20; intro a21 wx21 H21
    refine plain (y_move rfl rfl) rfl rfl rfl H21 ?_
    clear H21; intro a22 H22
    refine plain (y_extract rfl rfl rfl) rfl rfl rfl H22 ?_
    clear H22; intro a23 H23
    refine plain (y_extract rfl rfl rfl) rfl rfl rfl H23 ?_
    clear H23; intro a24 H24
    refine plain (y_assign rfl rfl) rfl rfl rfl H24 ?_
    clear H24; intro a25 H25
    refine plain (y_assign rfl rfl) rfl rfl rfl H25 ?_
    clear H25; intro a26 H26
    refine fin ?_
    refine then_n ?_
    refine wp_seq ?_
    refine reg ?_
    refine plain (y_fieldB rfl z_field25_1 rfl (by first | (simp only [Nat.zero_add, Nat.add_zero, Nat.reduceAdd]; rfl) | rfl)) rfl rfl rfl H26 ?_
    clear H26; intro a27 H27
    refine plain (y_loadB rfl z_agg3 rfl (by repeat (first | exact Mh | apply Mt)) q_ix_c4b32_1) rfl rfl rfl H27 ?_
    clear H27; intro a28 H28
    refine plain (y_move rfl rfl) rfl rfl rfl H28 ?_
    clear H28; intro a29 H29
    refine st_callg rfl z_call59 rfl rfl rfl rfl H29 (stag b.who 3 wf.who (by omega) b.said (by have := Oct.list_len (l := [Note.num b.round, Note.num b.who, Note.num b.amount, Note.num b.salt]); unfold Note.Bid.said; omega) (hG.frm H29.sep.frm (by simp))) ?_
    clear H29; intro a30 wx30 H30
    refine plain (y_extract rfl rfl rfl) rfl rfl rfl H30 ?_
    clear H30; intro a31 H31
    refine plain (y_extract rfl rfl rfl) rfl rfl rfl H31 ?_
    clear H31; intro a32 H32
    refine st_storeN rfl z_size23 rfl rfl (agg_cells _) (by repeat (first | exact Uh | apply Ut)) q_one_b32 (q_len_b32 (by first | assumption | exact Seal.tag_len _ _ _)) (q_len_b32 (by first | assumption | exact Seal.tag_len _ _ _)) (q_spl_b32_0_b32 (by first | assumption | exact Seal.tag_len _ _ _) (by first | assumption | exact Seal.tag_len _ _ _)) (by decide) rfl rfl H32 ?_
    clear H32; intro wx33 H33
    refine plain (y_assign rfl rfl) rfl rfl rfl H33 ?_
    clear H33; intro a34 H34
    refine fin ?_
    refine then_n ?_
    refine wp_ret ?_
    -- return 2
    refine retct rfl H34 rfl z_agg23 z_size23 (by repeat (first | exact Mh | apply Mt)) (q_len_b32 (by first | assumption | exact Seal.tag_len _ _ _)) rfl ?_
    refine ⟨_, [], rfl, ⟨?_, rfl⟩, H34.sep.sub (List.nil_sublist _)⟩
    rw [hk, if_pos rfl, if_pos rfl, Note.tag_good _ (Note.ok_who hk).2.1.1 (Note.ok_who hk).2.1.2]
set_option maxRecDepth 100000 in
set_option maxHeartbeats 1000000 in
theorem nsign (b : Note.Bid) (wf : Note.Bid.Wf b) {w : World} (hG : Glob 0 Sha.K w) : Calls Tryd.prog 12 #[.agg (Note.Bid.cells b).toArray] w (Gives (.tuple #[.agg (Note.Bid.cells (Note.signBid b).1).toArray, .int .i64 (Note.signBid b).2]) [] w) := by
  have htl := Note.tagl b
  have lz32 : (List.replicate 32 (0 : UInt8)).length = 32 := List.length_replicate
  have lz0 := wf.tag
  refine enterL (args := [.agg (Note.Bid.cells b).toArray]) Tryd.func12 rfl rfl (l := []) (Sep.refl _) ?_
  intro a0 H0
  refine wp_seq ?_
  refine reg ?_
  refine st_box rfl rfl (agg_cells _) rfl rfl rfl H0 ?_
  clear H0; intro b1 a1 wx1 H1
  refine st_alloc rfl z_zeroN25 rfl rfl rfl H1 ?_
  clear H1; intro b2 a2 wx2 H2
  refine plain (y_assign rfl rfl) rfl rfl rfl H2 ?_
  clear H2; intro a3 H3
  refine fin ?_
  refine then_n ?_
  refine wp_seq ?_
  refine reg ?_
  refine plain (y_loadAB rfl z_agg25 z_size25 rfl (by repeat (first | exact Mh | apply Mt)) (q_ld_c4b32_0_36 (by assumption)) (q_len_c4b32 (by assumption))) rfl rfl rfl H3 ?_
  clear H3; intro a4 H4
  refine st_callg rfl z_call41 rfl rfl rfl rfl H4 (ntag b wf (hG.frm H4.sep.frm (by simp))) ?_
  clear H4; intro a5 wx5 H5
  refine plain (y_move rfl rfl) rfl rfl rfl H5 ?_
  clear H5; intro a6 H6
  refine plain (y_extract rfl rfl rfl) rfl rfl rfl H6 ?_
  clear H6; intro a7 H7
  refine plain (y_extract rfl rfl rfl) rfl rfl rfl H7 ?_
  clear H7; intro a8 H8
  refine st_alloc rfl z_zeroN23 rfl rfl rfl H8 ?_
  clear H8; intro b9 a9 wx9 H9
  refine st_storeN rfl z_size23 rfl rfl (agg_cells _) (by repeat (first | exact Uh | apply Ut)) q_one_b32 (q_len_b32 (by assumption)) (q_len_b32 (by assumption)) (q_spl_b32_0_b32 (by assumption) (by assumption)) (by decide) rfl rfl H9 ?_
  clear H9; intro wx10 H10
  refine plain (y_assign rfl rfl) rfl rfl rfl H10 ?_
  clear H10; intro a11 H11
  refine fin ?_
  refine then_n ?_
  refine wp_seq ?_
  refine wp_seq ?_
  refine reg ?_
  refine plain (y_move rfl rfl) rfl rfl rfl H11 ?_
  clear H11; intro a12 H12
  refine plain (y_neq rfl rfl rfl) rfl rfl rfl H12 ?_
  clear H12; intro a13 H13
  refine fin ?_
  refine then_n ?_
  refine cnd H13 rfl (fun hc14 => ?_) (fun hc14 => ?_) -- cond 1
  · skip
    try simp only [decide_eq_true_eq, decide_eq_false_iff_not, Bool.not_eq_true', Bool.not_eq_false', Bool.and_eq_true, Bool.not_eq_true, Bool.not_eq_false] at hc14
    have hk : b.ok = false := by cases h : b.ok; rfl; rw [h] at hc14; exact absurd rfl hc14
    refine wp_seq ?_
    refine reg ?_
    refine plain (y_build rfl z_zeroN25 z_places25 rfl lay_n) rfl rfl rfl H13 ?_
    clear H13; intro a15 H15
    refine plain (y_move rfl rfl) rfl rfl rfl H15 ?_
    clear H15; intro a16 H16
    refine st_storeN rfl z_size25 rfl rfl (agg_cells _) (by repeat (first | exact Uh | apply Ut)) (q_one_c4b32 rfl rfl rfl rfl) (q_len_c4b32 (by assumption)) (q_len_c4b32 (by assumption)) (q_spl_c4b32_0_c4b32 (by assumption) (by assumption)) (by decide) rfl rfl H16 ?_
    clear H16; intro wx17 H17
    refine plain (y_assign rfl rfl) rfl rfl rfl H17 ?_
    clear H17; intro a18 H18
    refine fin ?_
    refine then_n ?_
    refine wp_ret ?_
    refine then_r ?_
    -- return 1
    refine retct rfl H18 rfl z_agg25 z_size25 (by repeat (first | exact Mh | apply Mt)) (q_len_c4b32 (by assumption)) rfl ?_
    refine ⟨_, [], rfl, ⟨?_, rfl⟩, H18.sep.sub (List.nil_sublist _)⟩
    rw [Note.signBid, hk]
    rfl
  · skip
    try simp only [decide_eq_true_eq, decide_eq_false_iff_not, Bool.not_eq_true', Bool.not_eq_false', Bool.and_eq_true, Bool.not_eq_true, Bool.not_eq_false] at hc14
    have hk : b.ok = true := by cases h : b.ok; rw [h] at hc14; exact absurd hc14 (by decide); rfl
    refine wp_skip ?_
    refine then_n ?_
    refine wp_seq ?_
    refine reg ?_
    refine plain (y_loadAB rfl z_agg23 z_size23 rfl (by repeat (first | exact Mh | apply Mt)) (q_ld_b32_0_32 (by assumption)) (q_len_b32 (by assumption))) rfl rfl rfl H13 ?_
    clear H13; intro a19 H19
    refine plain (y_fieldB rfl z_field25_4 rfl (by first | (simp only [Nat.zero_add, Nat.add_zero, Nat.reduceAdd]; rfl) | rfl)) rfl rfl rfl H19 ?_
    clear H19; intro a20 H20
    refine st_storeN rfl z_size23 rfl rfl (agg_cells _) (by repeat (first | exact Uh | apply Ut)) q_one_b32 (q_len_b32 (by assumption)) (q_len_c4b32 (by assumption)) (q_spl_c4b32_4_b32 (by assumption) (by assumption)) (by decide) rfl rfl H20 ?_
    clear H20; intro wx21 H21
    refine fin ?_
    refine then_n ?_
    refine wp_seq ?_
    refine reg ?_
    refine plain (y_loadAB rfl z_agg25 z_size25 rfl (by repeat (first | exact Mh | apply Mt)) (q_ld_c4b32_0_36 (by assumption)) (q_len_c4b32 (by assumption))) rfl rfl rfl H21 ?_
    clear H21; intro a22 H22
    refine st_storeN rfl z_size25 rfl rfl (agg_cells _) (by repeat (first | exact Uh | apply Ut)) (q_one_c4b32 rfl rfl rfl rfl) (q_len_c4b32 (by assumption)) (q_len_c4b32 (by assumption)) (q_spl_c4b32_0_c4b32 (by assumption) (by assumption)) (by decide) rfl rfl H22 ?_
    clear H22; intro wx23 H23
    refine plain (y_assign rfl rfl) rfl rfl rfl H23 ?_
    clear H23; intro a24 H24
    refine fin ?_
    refine then_n ?_
    refine wp_ret ?_
    -- return 2
    refine retct rfl H24 rfl z_agg25 z_size25 (by repeat (first | exact Mh | apply Mt)) (q_len_c4b32 (by assumption)) rfl ?_
    refine ⟨_, [], rfl, ⟨?_, rfl⟩, H24.sep.sub (List.nil_sublist _)⟩
    rw [Note.signBid, hk]
    rfl
set_option maxRecDepth 100000 in
set_option maxHeartbeats 1000000 in
theorem ncheck (b : Note.Bid) (wf : Note.Bid.Wf b) {w : World} (hG : Glob 0 Sha.K w) : Calls Tryd.prog 15 #[.agg (Note.Bid.cells b).toArray] w (Gives (.int .i64 (Note.checkBid b)) [] w) := by
  have htl := Note.tagl b
  have lz32 : (List.replicate 32 (0 : UInt8)).length = 32 := List.length_replicate
  have lz0 := wf.tag
  refine enterL (args := [.agg (Note.Bid.cells b).toArray]) Tryd.func15 rfl rfl (l := []) (Sep.refl _) ?_
  intro a0 H0
  refine wp_seq ?_
  refine reg ?_
  refine st_box rfl rfl (agg_cells _) rfl rfl rfl H0 ?_
  clear H0; intro b1 a1 wx1 H1
  refine plain (y_assign rfl rfl) rfl rfl rfl H1 ?_
  clear H1; intro a2 H2
  refine fin ?_
  refine then_n ?_
  refine wp_seq ?_
  refine reg ?_
  refine plain (y_loadAB rfl z_agg25 z_size25 rfl (by repeat (first | exact Mh | apply Mt)) (q_ld_c4b32_0_36 (by assumption)) (q_len_c4b32 (by assumption))) rfl rfl rfl H2 ?_
  clear H2; intro a3 H3
  refine st_callg rfl z_call41 rfl rfl rfl rfl H3 (ntag b wf (hG.frm H3.sep.frm (by simp))) ?_
  clear H3; intro a4 wx4 H4
  refine plain (y_move rfl rfl) rfl rfl rfl H4 ?_
  clear H4; intro a5 H5
  refine plain (y_extract rfl rfl rfl) rfl rfl rfl H5 ?_
  clear H5; intro a6 H6
  refine plain (y_extract rfl rfl rfl) rfl rfl rfl H6 ?_
  clear H6; intro a7 H7
  refine st_alloc rfl z_zeroN23 rfl rfl rfl H7 ?_
  clear H7; intro b8 a8 wx8 H8
  refine st_storeN rfl z_size23 rfl rfl (agg_cells _) (by repeat (first | exact Uh | apply Ut)) q_one_b32 (q_len_b32 (by assumption)) (q_len_b32 (by assumption)) (q_spl_b32_0_b32 (by assumption) (by assumption)) (by decide) rfl rfl H8 ?_
  clear H8; intro wx9 H9
  refine plain (y_assign rfl rfl) rfl rfl rfl H9 ?_
  clear H9; intro a10 H10
  refine fin ?_
  refine then_n ?_
  refine wp_seq ?_
  refine wp_seq ?_
  refine reg ?_
  refine plain (y_move rfl rfl) rfl rfl rfl H10 ?_
  clear H10; intro a11 H11
  refine plain (y_eql rfl rfl rfl) rfl rfl rfl H11 ?_
  clear H11; intro a12 H12
  refine plain (y_move rfl rfl) rfl rfl rfl H12 ?_
  clear H12; intro a13 H13
  refine Sx.part (d := 12) H13 rfl (fun hg14 => ?_) (fun hg14 => ?_)
  · first
    | fail
    | skip
      clear H13; intro H15
      try simp only [decide_eq_true_eq, decide_eq_false_iff_not, Bool.not_eq_true', Bool.not_eq_false', Bool.and_eq_true, Bool.not_eq_true, Bool.not_eq_false] at hg14
      have hk : b.ok = true := by cases h : b.ok; rw [h] at hg14; exact absurd hg14 (by decide); rfl
      refine plain (y_loadAB rfl z_agg23 z_size23 rfl (by repeat (first | exact Mh | apply Mt)) (q_ld_b32_0_32 (by assumption)) (q_len_b32 (by assumption))) rfl rfl rfl H15 ?_
      clear H15; intro a16 H16
      refine plain (y_fieldB rfl z_field25_4 rfl (by first | (simp only [Nat.zero_add, Nat.add_zero, Nat.reduceAdd]; rfl) | rfl)) rfl rfl rfl H16 ?_
      clear H16; intro a17 H17
      refine plain (y_loadAB rfl z_agg23 z_size23 rfl (by repeat (first | exact Mh | apply Mt)) (q_ld_c4b32_4_32 (by assumption)) (q_len_b32 (by assumption))) rfl rfl rfl H17 ?_
      clear H17; intro a18 H18
      refine plain (y_hneq rfl Tryd.eqGuardType23 Tryd.underlying23 Tryd.underlying5 z_size5 rfl rfl (by assumption) (by assumption)) rfl rfl rfl H18 ?_
      clear H18; intro a19 H19
      refine plain (y_pick_t rfl rfl rfl) rfl rfl rfl H19 ?_
      clear H19; intro a20 H20
      refine fin ?_
      refine then_n ?_
      refine cnd H20 rfl (fun hc21 => ?_) (fun hc21 => ?_) -- cond 1
      · skip
        try simp only [decide_eq_true_eq, decide_eq_false_iff_not, Bool.not_eq_true', Bool.not_eq_false', Bool.and_eq_true, Bool.not_eq_true, Bool.not_eq_false] at hc21
        refine wp_seq ?_
        refine reg ?_
        refine plain (y_assign rfl rfl) rfl rfl rfl H20 ?_
        clear H20; intro a22 H22
        refine fin ?_
        refine then_n ?_
        refine wp_ret ?_
        refine then_r ?_
        -- return 1
        refine ret1 rfl H22 rfl ?_
        refine ⟨_, [], rfl, ⟨?_, rfl⟩, H22.sep.sub (List.nil_sublist _)⟩
        rw [Note.checkBid, hk]
        rw [hk] at *
        simp_all
      · skip
        try simp only [decide_eq_true_eq, decide_eq_false_iff_not, Bool.not_eq_true', Bool.not_eq_false', Bool.and_eq_true, Bool.not_eq_true, Bool.not_eq_false] at hc21
        refine wp_skip ?_
        refine then_n ?_
        refine wp_seq ?_
        refine reg ?_
        refine plain (y_move rfl rfl) rfl rfl rfl H20 ?_
        clear H20; intro a23 H23
        refine plain (y_assign rfl rfl) rfl rfl rfl H23 ?_
        clear H23; intro a24 H24
        refine fin ?_
        refine then_n ?_
        refine wp_ret ?_
        -- return 2
        refine ret1 rfl H24 rfl ?_
        refine ⟨_, [], rfl, ⟨?_, rfl⟩, H24.sep.sub (List.nil_sublist _)⟩
        rw [Note.checkBid, hk]
        rw [hk] at *
        simp_all
  · first
    | fail
    | skip
      clear H13; intro H25
      try simp only [decide_eq_true_eq, decide_eq_false_iff_not, Bool.not_eq_true', Bool.not_eq_false', Bool.and_eq_true, Bool.not_eq_true, Bool.not_eq_false] at hg14
      have hk : b.ok = false := by cases h : b.ok; rfl; rw [h] at hg14; exact absurd rfl hg14
      refine skip rfl rfl rfl H25 ?_
      clear H25; intro a26 H26
      refine skip rfl rfl rfl H26 ?_
      clear H26; intro a27 H27
      refine skip rfl rfl rfl H27 ?_
      clear H27; intro a28 H28
      refine skip rfl rfl rfl H28 ?_
      clear H28; intro a29 H29
      refine plain (y_pick_f rfl rfl rfl) rfl rfl rfl H29 ?_
      clear H29; intro a30 H30
      refine fin ?_
      refine then_n ?_
      refine cnd_f H30 rfl ?_
      refine wp_skip ?_
      refine then_n ?_
      refine wp_seq ?_
      refine reg ?_
      refine plain (y_move rfl rfl) rfl rfl rfl H30 ?_
      clear H30; intro a32 H32
      refine plain (y_assign rfl rfl) rfl rfl rfl H32 ?_
      clear H32; intro a33 H33
      refine fin ?_
      refine then_n ?_
      refine wp_ret ?_
      -- return 3
      refine ret1 rfl H33 rfl ?_
      refine ⟨_, [], rfl, ⟨?_, rfl⟩, H33.sep.sub (List.nil_sublist _)⟩
      rw [Note.checkBid, hk]
      rw [hk] at *
      simp_all

end Go.Proofs.YtnnhnnhdoipbaaaDoor.N_Sign

set_option linter.unusedVariables false
set_option linter.unusedSimpArgs false
namespace Go.Proofs.YtnnhnnhdoipbaaaDoor.N_Item
open Go.Sx Go.RowKit Go.Proofs.YtnnhnnhdoipbaaaDoor.N_Num Go.Proofs.YtnnhnnhdoipbaaaDoor.N_Read Go.Proofs.YtnnhnnhdoipbaaaDoor.N_Lay Go.Proofs.YtnnhnnhdoipbaaaDoor.N_Fields

theorem z_agg3 : aggB Tryd.prog 3 = some false := by kernel_rfl
theorem z_size3 : sizeB Tryd.prog 3 = some 1 := by kernel_rfl
theorem z_zero3 : zeroL Tryd.prog 3 = some ([.int .i64 0]) := by kernel_rfl
theorem z_call47 : callB Tryd.prog 47 = true := by kernel_rfl
theorem z_agg9 : aggB Tryd.prog 9 = some false := by kernel_rfl
theorem z_call36 : callB Tryd.prog 36 = true := by kernel_rfl
theorem z_size9 : sizeB Tryd.prog 9 = some 1 := by kernel_rfl
theorem z_zero9 : zeroL Tryd.prog 9 = some ([.string ⟨#[]⟩]) := by kernel_rfl
theorem z_slice49 : sliceB Tryd.prog 49 = some (9, 1, 16) := by kernel_rfl
theorem z_notint49 : notIntB Tryd.prog 49 = true := by kernel_rfl
theorem z_call35 : callB Tryd.prog 35 = true := by kernel_rfl
theorem z_size80 : sizeB Tryd.prog 80 = some 1 := by kernel_rfl
theorem z_zero80 : zeroL Tryd.prog 80 = some ([.pointer none]) := by kernel_rfl
theorem z_call51 : callB Tryd.prog 51 = true := by kernel_rfl
end Go.Proofs.YtnnhnnhdoipbaaaDoor.N_Item

set_option linter.unusedVariables false
set_option linter.unusedSimpArgs false
namespace Go.Proofs.YtnnhnnhdoipbaaaDoor.N_WBatch
open Go.Sx Go.RowKit Go.Proofs.YtnnhnnhdoipbaaaDoor.N_Num Go.Proofs.YtnnhnnhdoipbaaaDoor.N_Read Go.Proofs.YtnnhnnhdoipbaaaDoor.N_Lay

theorem z_agg3 : aggB Tryd.prog 3 = some false := by kernel_rfl
theorem z_size3 : sizeB Tryd.prog 3 = some 1 := by kernel_rfl
theorem z_zero3 : zeroL Tryd.prog 3 = some ([.int .i64 0]) := by kernel_rfl
theorem z_call47 : callB Tryd.prog 47 = true := by kernel_rfl
theorem z_call36 : callB Tryd.prog 36 = true := by kernel_rfl
theorem z_agg9 : aggB Tryd.prog 9 = some false := by kernel_rfl
theorem z_size9 : sizeB Tryd.prog 9 = some 1 := by kernel_rfl
theorem z_zero9 : zeroL Tryd.prog 9 = some ([.string ⟨#[]⟩]) := by kernel_rfl
theorem z_slice49 : sliceB Tryd.prog 49 = some (9, 1, 16) := by kernel_rfl
theorem z_notint49 : notIntB Tryd.prog 49 = true := by kernel_rfl
theorem z_call35 : callB Tryd.prog 35 = true := by kernel_rfl

end Go.Proofs.YtnnhnnhdoipbaaaDoor.N_WBatch

set_option linter.unusedVariables false
set_option linter.unusedSimpArgs false
namespace Go.Proofs.YtnnhnnhdoipbaaaDoor.N_RBatch
open Go.Sx Go.RowKit Go.Proofs.YtnnhnnhdoipbaaaDoor.N_Num Go.Proofs.YtnnhnnhdoipbaaaDoor.N_Read Go.Proofs.YtnnhnnhdoipbaaaDoor.N_Lay Go.Proofs.YtnnhnnhdoipbaaaDoor.N_Fields

theorem z_size80 : sizeB Tryd.prog 80 = some 1 := by kernel_rfl
theorem z_zero80 : zeroL Tryd.prog 80 = some ([.pointer none]) := by kernel_rfl
theorem z_call51 : callB Tryd.prog 51 = true := by kernel_rfl
theorem z_agg3 : aggB Tryd.prog 3 = some false := by kernel_rfl
theorem z_size3 : sizeB Tryd.prog 3 = some 1 := by kernel_rfl
theorem z_zero3 : zeroL Tryd.prog 3 = some ([.int .i64 0]) := by kernel_rfl
theorem z_call47 : callB Tryd.prog 47 = true := by kernel_rfl
theorem z_size9 : sizeB Tryd.prog 9 = some 1 := by kernel_rfl
theorem z_agg9 : aggB Tryd.prog 9 = some false := by kernel_rfl
end Go.Proofs.YtnnhnnhdoipbaaaDoor.N_RBatch

set_option linter.unusedVariables false
set_option linter.unusedSimpArgs false
namespace Go.Proofs.YtnnhnnhdoipbaaaDoor.N_RefB
open Go.Sx Go.RowKit Go.Proofs.YtnnhnnhdoipbaaaDoor.N_Block Go.Proofs.YtnnhnnhdoipbaaaDoor.N_Sum Go.Proofs.YtnnhnnhdoipbaaaDoor.N_Ref Go.Proofs.YtnnhnnhdoipbaaaDoor.N_RSum Go.Proofs.YtnnhnnhdoipbaaaDoor.N_Leaf Go.Proofs.YtnnhnnhdoipbaaaDoor.N_Num Go.Proofs.YtnnhnnhdoipbaaaDoor.N_Key Go.Proofs.YtnnhnnhdoipbaaaDoor.N_Ref Go.Proofs.YtnnhnnhdoipbaaaDoor.N_RSum Go.Proofs.YtnnhnnhdoipbaaaDoor.N_Tag Go.Proofs.YtnnhnnhdoipbaaaDoor.N_Read Go.Proofs.YtnnhnnhdoipbaaaDoor.N_Lay Go.Proofs.YtnnhnnhdoipbaaaDoor.N_Eq Go.Proofs.YtnnhnnhdoipbaaaDoor.N_Ref0

theorem z_field25_0 : fieldB Tryd.prog 25 0 = some 0 := by kernel_rfl
theorem z_agg3 : aggB Tryd.prog 3 = some false := by kernel_rfl
theorem q_ix_c4b32_0 {a0 a1 a2 a3 : Value} {t4 : List UInt8} : (a0 :: a1 :: a2 :: a3 :: t4.map u8)[0]? = some a0 := ix_0
theorem z_call45 : callB Tryd.prog 45 = true := by kernel_rfl
theorem z_field25_1 : fieldB Tryd.prog 25 1 = some 1 := by kernel_rfl
theorem q_ix_c4b32_1 {a0 a1 a2 a3 : Value} {t4 : List UInt8} : (a0 :: a1 :: a2 :: a3 :: t4.map u8)[1]? = some a1 := (ix_c (o := 0) ix_0)
theorem z_field25_2 : fieldB Tryd.prog 25 2 = some 2 := by kernel_rfl
theorem q_ix_c4b32_2 {a0 a1 a2 a3 : Value} {t4 : List UInt8} : (a0 :: a1 :: a2 :: a3 :: t4.map u8)[2]? = some a2 := (ix_c (o := 1) (ix_c (o := 0) ix_0))
theorem z_field25_3 : fieldB Tryd.prog 25 3 = some 3 := by kernel_rfl
theorem q_ix_c4b32_3 {a0 a1 a2 a3 : Value} {t4 : List UInt8} : (a0 :: a1 :: a2 :: a3 :: t4.map u8)[3]? = some a3 := (ix_c (o := 2) (ix_c (o := 1) (ix_c (o := 0) ix_0)))
theorem z_agg25 : aggB Tryd.prog 25 = some true := by kernel_rfl
theorem z_size25 : sizeB Tryd.prog 25 = some 36 := by kernel_rfl
theorem q_ld_c4b32_0_36 {a0 a1 a2 a3 : Value} {t4 : List UInt8} (h4 : t4.length = 32) : ((a0 :: a1 :: a2 :: a3 :: t4.map u8).drop 0).take 36 = a0 :: a1 :: a2 :: a3 :: t4.map u8 := (ld_a (len_c (n := 35) (len_c (n := 34) (len_c (n := 33) (len_c (n := 32) (len_e (k := 32) h4))))))
theorem q_len_c4b32 {a0 a1 a2 a3 : Value} {t4 : List UInt8} (h4 : t4.length = 32) : (a0 :: a1 :: a2 :: a3 :: t4.map u8).length = 36 := (len_c (n := 35) (len_c (n := 34) (len_c (n := 33) (len_c (n := 32) (len_e (k := 32) h4)))))
theorem z_field25_4 : fieldB Tryd.prog 25 4 = some 4 := by kernel_rfl
theorem z_agg23 : aggB Tryd.prog 23 = some true := by kernel_rfl
theorem z_size23 : sizeB Tryd.prog 23 = some 32 := by kernel_rfl
theorem q_ld_c4b32_4_32 {a0 a1 a2 a3 : Value} {t4 : List UInt8} (h4 : t4.length = 32) : ((a0 :: a1 :: a2 :: a3 :: t4.map u8).drop 4).take 32 = t4.map u8 := (ld_c (o := 3) (ld_c (o := 2) (ld_c (o := 1) (ld_c (o := 0) (ld_a (len_e (k := 32) h4))))))
theorem q_len_b32 {t0 : List UInt8} (h0 : t0.length = 32) : (t0.map u8).length = 32 := (len_e (k := 32) h0)
theorem z_call39 : callB Tryd.prog 39 = true := by kernel_rfl
theorem z_call40 : callB Tryd.prog 40 = true := by kernel_rfl
theorem z_size9 : sizeB Tryd.prog 9 = some 1 := by kernel_rfl
theorem z_zero9 : zeroL Tryd.prog 9 = some ([.string ⟨#[]⟩]) := by kernel_rfl
theorem z_call38 : callB Tryd.prog 38 = true := by kernel_rfl
theorem z_zeroN25 : zeroL Tryd.prog 25 = some ((.int .i64 0 :: (.int .i64 0 :: (.int .i64 0 :: (.int .i64 0 :: (List.replicate 32 (0 : UInt8)).map u8))))) := by kernel_rfl
theorem z_places25 : placesB Tryd.prog 25 = some [(0, 1), (1, 1), (2, 1), (3, 1), (4, 32)] := by kernel_rfl
theorem q_one_c4b32 {a0 a1 a2 a3 : Value} {t4 : List UInt8} (o0 : a0.oneCell' = true) (o1 : a1.oneCell' = true) (o2 : a2.oneCell' = true) (o3 : a3.oneCell' = true) : (a0 :: a1 :: a2 :: a3 :: t4.map u8).all (·.oneCell') = true := (one_c o0 (one_c o1 (one_c o2 (one_c o3 (one_u8 _)))))
theorem q_spl_c4b32_0_c4b32 {a0 a1 a2 a3 : Value} {t4 : List UInt8} {b0 b1 b2 b3 : Value} {s4 : List UInt8} (h4 : t4.length = 32) (g4 : s4.length = 32) : spl (a0 :: a1 :: a2 :: a3 :: t4.map u8) 0 (b0 :: b1 :: b2 :: b3 :: s4.map u8) = b0 :: b1 :: b2 :: b3 :: s4.map u8 := (spl_a (z := 36) (len_c (n := 35) (len_c (n := 34) (len_c (n := 33) (len_c (n := 32) (len_e (k := 32) h4))))) (len_c (n := 35) (len_c (n := 34) (len_c (n := 33) (len_c (n := 32) (len_e (k := 32) g4))))))
theorem z_zeroN23 : zeroL Tryd.prog 23 = some ((List.replicate 32 (0 : UInt8)).map u8) := by kernel_rfl
theorem q_one_b32 {t0 : List UInt8} : (t0.map u8).all (·.oneCell') = true := (one_u8 _)
theorem q_spl_b32_0_b32 {t0 : List UInt8} {s0 : List UInt8} (h0 : t0.length = 32) (g0 : s0.length = 32) : spl (t0.map u8) 0 (s0.map u8) = s0.map u8 := (spl_a (z := 32) (len_e (k := 32) h0) (len_e (k := 32) g0))
theorem q_ld_b32_0_32 {t0 : List UInt8} (h0 : t0.length = 32) : ((t0.map u8).drop 0).take 32 = t0.map u8 := (ld_a (len_e (k := 32) h0))
theorem q_spl_c4b32_4_b32 {a0 a1 a2 a3 : Value} {t4 : List UInt8} {s0 : List UInt8} (h4 : t4.length = 32) (g0 : s0.length = 32) : spl (a0 :: a1 :: a2 :: a3 :: t4.map u8) 4 (s0.map u8) = a0 :: a1 :: a2 :: a3 :: s0.map u8 := (spl_c (o := 3) (spl_c (o := 2) (spl_c (o := 1) (spl_c (o := 0) (spl_a (z := 32) (len_e (k := 32) h4) (len_e (k := 32) g0))))))
theorem z_agg9 : aggB Tryd.prog 9 = some false := by kernel_rfl
theorem z_size3 : sizeB Tryd.prog 3 = some 1 := by kernel_rfl
theorem q_spl_c4b32_0_c1 {a0 a1 a2 a3 : Value} {t4 : List UInt8} {b0 : Value} : spl (a0 :: a1 :: a2 :: a3 :: t4.map u8) 0 (b0 :: []) = b0 :: a1 :: a2 :: a3 :: t4.map u8 := spl_0
theorem q_spl_c4b32_1_c1 {a0 a1 a2 a3 : Value} {t4 : List UInt8} {b0 : Value} : spl (a0 :: a1 :: a2 :: a3 :: t4.map u8) 1 (b0 :: []) = a0 :: b0 :: a2 :: a3 :: t4.map u8 := (spl_c (o := 0) spl_0)
theorem q_spl_c4b32_2_c1 {a0 a1 a2 a3 : Value} {t4 : List UInt8} {b0 : Value} : spl (a0 :: a1 :: a2 :: a3 :: t4.map u8) 2 (b0 :: []) = a0 :: a1 :: b0 :: a3 :: t4.map u8 := (spl_c (o := 1) (spl_c (o := 0) spl_0))
end Go.Proofs.YtnnhnnhdoipbaaaDoor.N_RefB

set_option linter.unusedVariables false
set_option linter.unusedSimpArgs false
namespace Go.Proofs.YtnnhnnhdoipbaaaDoor.N_RefI
open Go.Sx Go.RowKit Go.Proofs.YtnnhnnhdoipbaaaDoor.N_Block Go.Proofs.YtnnhnnhdoipbaaaDoor.N_Sum Go.Proofs.YtnnhnnhdoipbaaaDoor.N_Ref Go.Proofs.YtnnhnnhdoipbaaaDoor.N_RSum Go.Proofs.YtnnhnnhdoipbaaaDoor.N_Leaf Go.Proofs.YtnnhnnhdoipbaaaDoor.N_Num Go.Proofs.YtnnhnnhdoipbaaaDoor.N_Key Go.Proofs.YtnnhnnhdoipbaaaDoor.N_Ref Go.Proofs.YtnnhnnhdoipbaaaDoor.N_RSum Go.Proofs.YtnnhnnhdoipbaaaDoor.N_Tag Go.Proofs.YtnnhnnhdoipbaaaDoor.N_Read Go.Proofs.YtnnhnnhdoipbaaaDoor.N_Lay Go.Proofs.YtnnhnnhdoipbaaaDoor.N_Eq Go.Proofs.YtnnhnnhdoipbaaaDoor.N_Ref0

theorem z_agg3 : aggB Tryd.prog 3 = some false := by kernel_rfl
theorem z_call45 : callB Tryd.prog 45 = true := by kernel_rfl
theorem z_agg9 : aggB Tryd.prog 9 = some false := by kernel_rfl
theorem z_call39 : callB Tryd.prog 39 = true := by kernel_rfl
theorem z_size9 : sizeB Tryd.prog 9 = some 1 := by kernel_rfl
theorem z_zero9 : zeroL Tryd.prog 9 = some ([.string ⟨#[]⟩]) := by kernel_rfl
theorem z_call38 : callB Tryd.prog 38 = true := by kernel_rfl
theorem z_size3 : sizeB Tryd.prog 3 = some 1 := by kernel_rfl
end Go.Proofs.YtnnhnnhdoipbaaaDoor.N_RefI

set_option linter.unusedVariables false
set_option linter.unusedSimpArgs false
namespace Go.Proofs.YtnnhnnhdoipbaaaDoor.N_RefR
open Go.Sx Go.RowKit Go.Proofs.YtnnhnnhdoipbaaaDoor.N_Block Go.Proofs.YtnnhnnhdoipbaaaDoor.N_Sum Go.Proofs.YtnnhnnhdoipbaaaDoor.N_Ref Go.Proofs.YtnnhnnhdoipbaaaDoor.N_RSum Go.Proofs.YtnnhnnhdoipbaaaDoor.N_Leaf Go.Proofs.YtnnhnnhdoipbaaaDoor.N_Num Go.Proofs.YtnnhnnhdoipbaaaDoor.N_Key Go.Proofs.YtnnhnnhdoipbaaaDoor.N_Ref Go.Proofs.YtnnhnnhdoipbaaaDoor.N_RSum Go.Proofs.YtnnhnnhdoipbaaaDoor.N_Tag Go.Proofs.YtnnhnnhdoipbaaaDoor.N_Read Go.Proofs.YtnnhnnhdoipbaaaDoor.N_Lay Go.Proofs.YtnnhnnhdoipbaaaDoor.N_Eq Go.Proofs.YtnnhnnhdoipbaaaDoor.N_Ref0

theorem z_zeroN35 : zeroL Tryd.prog 35 = some ((.int .i64 0 :: (.int .i64 0 :: (.int .i64 0 :: (.string ⟨#[]⟩ :: ((List.replicate 32 (0 : UInt8)).map u8 ++ (List.replicate 32 (0 : UInt8)).map u8)))))) := by kernel_rfl
theorem z_call45 : callB Tryd.prog 45 = true := by kernel_rfl
theorem z_places35 : placesB Tryd.prog 35 = some [(0, 1), (1, 1), (2, 1), (3, 1), (4, 32), (36, 32)] := by kernel_rfl
theorem z_size35 : sizeB Tryd.prog 35 = some 68 := by kernel_rfl
theorem q_one_c4b32b32 {a0 a1 a2 a3 : Value} {t4 t5 : List UInt8} (o0 : a0.oneCell' = true) (o1 : a1.oneCell' = true) (o2 : a2.oneCell' = true) (o3 : a3.oneCell' = true) : (a0 :: a1 :: a2 :: a3 :: (t4.map u8 ++ (t5.map u8))).all (·.oneCell') = true := (one_c o0 (one_c o1 (one_c o2 (one_c o3 (one_b (one_u8 _))))))
theorem q_len_c4b32b32 {a0 a1 a2 a3 : Value} {t4 t5 : List UInt8} (h4 : t4.length = 32) (h5 : t5.length = 32) : (a0 :: a1 :: a2 :: a3 :: (t4.map u8 ++ (t5.map u8))).length = 68 := (len_c (n := 67) (len_c (n := 66) (len_c (n := 65) (len_c (n := 64) (len_b (k := 32) (n := 32) h4 (len_e (k := 32) h5))))))
theorem q_spl_c4b32b32_0_c4b32b32 {a0 a1 a2 a3 : Value} {t4 t5 : List UInt8} {b0 b1 b2 b3 : Value} {s4 s5 : List UInt8} (h4 : t4.length = 32) (h5 : t5.length = 32) (g4 : s4.length = 32) (g5 : s5.length = 32) : spl (a0 :: a1 :: a2 :: a3 :: (t4.map u8 ++ (t5.map u8))) 0 (b0 :: b1 :: b2 :: b3 :: (s4.map u8 ++ (s5.map u8))) = b0 :: b1 :: b2 :: b3 :: (s4.map u8 ++ (s5.map u8)) := (spl_a (z := 68) (len_c (n := 67) (len_c (n := 66) (len_c (n := 65) (len_c (n := 64) (len_b (k := 32) (n := 32) h4 (len_e (k := 32) h5)))))) (len_c (n := 67) (len_c (n := 66) (len_c (n := 65) (len_c (n := 64) (len_b (k := 32) (n := 32) g4 (len_e (k := 32) g5)))))))
theorem z_agg35 : aggB Tryd.prog 35 = some true := by kernel_rfl
theorem z_call39 : callB Tryd.prog 39 = true := by kernel_rfl
theorem z_size9 : sizeB Tryd.prog 9 = some 1 := by kernel_rfl
theorem z_zero9 : zeroL Tryd.prog 9 = some ([.string ⟨#[]⟩]) := by kernel_rfl
theorem z_call38 : callB Tryd.prog 38 = true := by kernel_rfl
theorem z_agg23 : aggB Tryd.prog 23 = some true := by kernel_rfl
theorem z_size23 : sizeB Tryd.prog 23 = some 32 := by kernel_rfl
theorem q_ld_b32_0_32 {t0 : List UInt8} (h0 : t0.length = 32) : ((t0.map u8).drop 0).take 32 = t0.map u8 := (ld_a (len_e (k := 32) h0))
theorem q_len_b32 {t0 : List UInt8} (h0 : t0.length = 32) : (t0.map u8).length = 32 := (len_e (k := 32) h0)
theorem z_call46 : callB Tryd.prog 46 = true := by kernel_rfl
theorem q_spl_c4b32b32_0_c1 {a0 a1 a2 a3 : Value} {t4 t5 : List UInt8} {b0 : Value} : spl (a0 :: a1 :: a2 :: a3 :: (t4.map u8 ++ (t5.map u8))) 0 (b0 :: []) = b0 :: a1 :: a2 :: a3 :: (t4.map u8 ++ (t5.map u8)) := spl_0
theorem q_spl_c4b32b32_1_c1 {a0 a1 a2 a3 : Value} {t4 t5 : List UInt8} {b0 : Value} : spl (a0 :: a1 :: a2 :: a3 :: (t4.map u8 ++ (t5.map u8))) 1 (b0 :: []) = a0 :: b0 :: a2 :: a3 :: (t4.map u8 ++ (t5.map u8)) := (spl_c (o := 0) spl_0)
theorem q_spl_c4b32b32_2_c1 {a0 a1 a2 a3 : Value} {t4 t5 : List UInt8} {b0 : Value} : spl (a0 :: a1 :: a2 :: a3 :: (t4.map u8 ++ (t5.map u8))) 2 (b0 :: []) = a0 :: a1 :: b0 :: a3 :: (t4.map u8 ++ (t5.map u8)) := (spl_c (o := 1) (spl_c (o := 0) spl_0))
theorem q_spl_c4b32b32_3_c1 {a0 a1 a2 a3 : Value} {t4 t5 : List UInt8} {b0 : Value} : spl (a0 :: a1 :: a2 :: a3 :: (t4.map u8 ++ (t5.map u8))) 3 (b0 :: []) = a0 :: a1 :: a2 :: b0 :: (t4.map u8 ++ (t5.map u8)) := (spl_c (o := 2) (spl_c (o := 1) (spl_c (o := 0) spl_0)))
theorem q_spl_c4b32b32_4_b32 {a0 a1 a2 a3 : Value} {t4 t5 : List UInt8} {s0 : List UInt8} (h4 : t4.length = 32) (g0 : s0.length = 32) : spl (a0 :: a1 :: a2 :: a3 :: (t4.map u8 ++ (t5.map u8))) 4 (s0.map u8) = a0 :: a1 :: a2 :: a3 :: (s0.map u8 ++ (t5.map u8)) := (spl_c (o := 3) (spl_c (o := 2) (spl_c (o := 1) (spl_c (o := 0) (spl_h (z := 32) (len_e h4) (len_e g0))))))
theorem q_spl_c4b32b32_36_b32 {a0 a1 a2 a3 : Value} {t4 t5 : List UInt8} {s0 : List UInt8} (h4 : t4.length = 32) (h5 : t5.length = 32) (g0 : s0.length = 32) : spl (a0 :: a1 :: a2 :: a3 :: (t4.map u8 ++ (t5.map u8))) 36 (s0.map u8) = a0 :: a1 :: a2 :: a3 :: (t4.map u8 ++ (s0.map u8)) := (spl_c (o := 35) (spl_c (o := 34) (spl_c (o := 33) (spl_c (o := 32) (spl_b (k := 32) (o := 0) h4 rfl (spl_a (z := 32) (len_e (k := 32) h5) (len_e (k := 32) g0)))))))
theorem z_field35_4 : fieldB Tryd.prog 35 4 = some 4 := by kernel_rfl
theorem q_ld_c4b32b32_4_32 {a0 a1 a2 a3 : Value} {t4 t5 : List UInt8} (h4 : t4.length = 32) : ((a0 :: a1 :: a2 :: a3 :: (t4.map u8 ++ (t5.map u8))).drop 4).take 32 = t4.map u8 := (ld_c (o := 3) (ld_c (o := 2) (ld_c (o := 1) (ld_c (o := 0) (ld_h h4)))))
theorem z_field35_0 : fieldB Tryd.prog 35 0 = some 0 := by kernel_rfl
theorem z_agg3 : aggB Tryd.prog 3 = some false := by kernel_rfl
theorem q_ix_c4b32b32_0 {a0 a1 a2 a3 : Value} {t4 t5 : List UInt8} : (a0 :: a1 :: a2 :: a3 :: (t4.map u8 ++ (t5.map u8)))[0]? = some a0 := ix_0
theorem z_field35_1 : fieldB Tryd.prog 35 1 = some 1 := by kernel_rfl
theorem q_ix_c4b32b32_1 {a0 a1 a2 a3 : Value} {t4 t5 : List UInt8} : (a0 :: a1 :: a2 :: a3 :: (t4.map u8 ++ (t5.map u8)))[1]? = some a1 := (ix_c (o := 0) ix_0)
theorem z_field35_2 : fieldB Tryd.prog 35 2 = some 2 := by kernel_rfl
theorem q_ix_c4b32b32_2 {a0 a1 a2 a3 : Value} {t4 t5 : List UInt8} : (a0 :: a1 :: a2 :: a3 :: (t4.map u8 ++ (t5.map u8)))[2]? = some a2 := (ix_c (o := 1) (ix_c (o := 0) ix_0))
theorem z_field35_3 : fieldB Tryd.prog 35 3 = some 3 := by kernel_rfl
theorem z_agg9 : aggB Tryd.prog 9 = some false := by kernel_rfl
theorem q_ix_c4b32b32_3 {a0 a1 a2 a3 : Value} {t4 t5 : List UInt8} : (a0 :: a1 :: a2 :: a3 :: (t4.map u8 ++ (t5.map u8)))[3]? = some a3 := (ix_c (o := 2) (ix_c (o := 1) (ix_c (o := 0) ix_0)))
theorem z_call20 : callB Tryd.prog 20 = true := by kernel_rfl
theorem q_ld_c4b32b32_0_68 {a0 a1 a2 a3 : Value} {t4 t5 : List UInt8} (h4 : t4.length = 32) (h5 : t5.length = 32) : ((a0 :: a1 :: a2 :: a3 :: (t4.map u8 ++ (t5.map u8))).drop 0).take 68 = a0 :: a1 :: a2 :: a3 :: (t4.map u8 ++ (t5.map u8)) := (ld_a (len_c (n := 67) (len_c (n := 66) (len_c (n := 65) (len_c (n := 64) (len_b (k := 32) (n := 32) h4 (len_e (k := 32) h5)))))))
theorem z_field35_5 : fieldB Tryd.prog 35 5 = some 36 := by kernel_rfl
theorem q_ld_c4b32b32_36_32 {a0 a1 a2 a3 : Value} {t4 t5 : List UInt8} (h4 : t4.length = 32) (h5 : t5.length = 32) : ((a0 :: a1 :: a2 :: a3 :: (t4.map u8 ++ (t5.map u8))).drop 36).take 32 = t5.map u8 := (ld_c (o := 35) (ld_c (o := 34) (ld_c (o := 33) (ld_c (o := 32) (ld_b (k := 32) (o := 0) h4 rfl (ld_a (len_e (k := 32) h5)))))))
theorem z_call40 : callB Tryd.prog 40 = true := by kernel_rfl
theorem z_size3 : sizeB Tryd.prog 3 = some 1 := by kernel_rfl
set_option maxRecDepth 100000 in
set_option maxHeartbeats 1000000 in
theorem rlink (prev : List UInt8) (hp : prev.length = 32) (index kind time : Int) (hi : Note.I64 index) (hkd : Note.I64 kind) (hti : Note.I64 time) (body : List UInt8) (hbl : body.length ≤ 140737488351232) {w : World}  : Calls Tryd.prog 20 #[.agg (prev.map u8).toArray, .int .i64 index, .int .i64 kind, .int .i64 time, str body] w (Gives (.tuple #[.agg (Note.Receipt.cells (Note.link prev index kind time body).1).toArray, .int .i64 (Note.link prev index kind time body).2]) [] w) := by
  have lz32 : (List.replicate 32 (0 : UInt8)).length = 32 := List.length_replicate
  refine enterL (args := [.agg (prev.map u8).toArray, .int .i64 index, .int .i64 kind, .int .i64 time, str body]) Tryd.func20 rfl rfl (l := []) (Sep.refl _) ?_
  intro a0 H0
  refine wp_seq ?_
  refine reg ?_
  refine st_box rfl rfl (agg_cells _) rfl rfl rfl H0 ?_
  clear H0; intro b1 a1 wx1 H1
  refine st_alloc rfl z_zeroN35 rfl rfl rfl H1 ?_
  clear H1; intro b2 a2 wx2 H2
  refine plain (y_assign rfl rfl) rfl rfl rfl H2 ?_
  clear H2; intro a3 H3
  refine fin ?_
  refine then_n ?_
  refine wp_seq ?_
  refine wp_seq ?_
  refine reg ?_
  refine plain (y_move rfl rfl) rfl rfl rfl H3 ?_
  clear H3; intro a4 H4
  refine st_callg rfl z_call45 rfl rfl rfl rfl H4 (rwithin _ _ _) ?_
  clear H4; intro a5 wx5 H5
  refine plain ((by first | exact y_not_d rfl rfl | exact y_not rfl rfl)) rfl rfl rfl H5 ?_
  clear H5; intro a6 H6
  refine plain (y_move rfl rfl) rfl rfl rfl H6 ?_
  clear H6; intro a7 H7
  refine Sx.part (d := 17) H7 rfl (fun hg8 => ?_) (fun hg8 => ?_)
  · first
    | fail
    | skip
      clear H7; intro H9
      try simp only [decide_eq_true_eq, decide_eq_false_iff_not, Bool.not_eq_true', Bool.not_eq_false', Bool.and_eq_true, Bool.not_eq_true, Bool.not_eq_false] at hg8
      refine skip rfl rfl rfl H9 ?_
      clear H9; intro a10 H10
      refine skip rfl rfl rfl H10 ?_
      clear H10; intro a11 H11
      refine skip rfl rfl rfl H11 ?_
      clear H11; intro a12 H12
      refine plain (y_pick_t rfl rfl rfl) rfl rfl rfl H12 ?_
      clear H12; intro a13 H13
      refine plain (y_move rfl rfl) rfl rfl rfl H13 ?_
      clear H13; intro a14 H14
      refine skip rfl rfl rfl H14 ?_
      clear H14; intro a15 H15
      refine skip rfl rfl rfl H15 ?_
      clear H15; intro a16 H16
      refine skip rfl rfl rfl H16 ?_
      clear H16; intro a17 H17
      refine skip rfl rfl rfl H17 ?_
      clear H17; intro a18 H18
      refine skip rfl rfl rfl H18 ?_
      clear H18; intro a19 H19
      refine skip rfl rfl rfl H19 ?_
      clear H19; intro a20 H20
      refine plain (y_pick_t rfl rfl rfl) rfl rfl rfl H20 ?_
      clear H20; intro a21 H21
      refine plain (y_move rfl rfl) rfl rfl rfl H21 ?_
      clear H21; intro a22 H22
      refine skip rfl rfl rfl H22 ?_
      clear H22; intro a23 H23
      refine skip rfl rfl rfl H23 ?_
      clear H23; intro a24 H24
      refine skip rfl rfl rfl H24 ?_
      clear H24; intro a25 H25
      refine plain (y_pick_t rfl rfl rfl) rfl rfl rfl H25 ?_
      clear H25; intro a26 H26
      refine fin ?_
      refine then_n ?_
      refine cnd_t H26 rfl ?_
      refine wp_seq ?_
      refine reg ?_
      refine plain (y_build rfl z_zeroN35 z_places35 rfl lay_n) rfl rfl rfl H26 ?_
      clear H26; intro a28 H28
      refine st_storeN rfl z_size35 rfl rfl (agg_cells _) (by repeat (first | exact Uh | apply Ut)) (q_one_c4b32b32 rfl rfl rfl rfl) (q_len_c4b32b32 (by first | assumption | exact Sha.sum_length _) (by first | assumption | exact Sha.sum_length _)) (q_len_c4b32b32 (by first | assumption | exact Sha.sum_length _) (by first | assumption | exact Sha.sum_length _)) (q_spl_c4b32b32_0_c4b32b32 (by first | assumption | exact Sha.sum_length _) (by first | assumption | exact Sha.sum_length _) (by first | assumption | exact Sha.sum_length _) (by first | assumption | exact Sha.sum_length _)) (by decide) rfl rfl H28 ?_
      clear H28; intro wx29 H29
      refine plain (y_assign rfl rfl) rfl rfl rfl H29 ?_
      clear H29; intro a30 H30
      refine fin ?_
      refine then_n ?_
      refine wp_ret ?_
      refine then_r ?_
      -- return 1
      refine retct rfl H30 rfl z_agg35 z_size35 (by repeat (first | exact Mh | apply Mt)) (q_len_c4b32b32 (by first | assumption | exact Sha.sum_length _) (by first | assumption | exact Sha.sum_length _)) rfl ?_
      refine ⟨_, [], rfl, ⟨?_, rfl⟩, H30.sep.sub (List.nil_sublist _)⟩
      have hk := Note.Receipt.ok_is (⟨index, kind, time, body, prev, Note.Z⟩ : Note.Receipt)
      first | (rw [Note.link, if_neg (by rw [hk]; simp only [decide_eq_true_eq]; omega)]; rfl) | (rw [Note.link, if_pos (by rw [hk]; simp only [decide_eq_true_eq]; omega)]; rfl)
  · first
    | fail
    | skip
      clear H7; intro H31
      try simp only [decide_eq_true_eq, decide_eq_false_iff_not, Bool.not_eq_true', Bool.not_eq_false', Bool.and_eq_true, Bool.not_eq_true, Bool.not_eq_false] at hg8
      refine plain (y_move rfl rfl) rfl rfl rfl H31 ?_
      clear H31; intro a32 H32
      refine st_callg rfl z_call45 rfl rfl rfl rfl H32 (rwithin _ _ _) ?_
      clear H32; intro a33 wx33 H33
      refine plain ((by first | exact y_not_d rfl rfl | exact y_not rfl rfl)) rfl rfl rfl H33 ?_
      clear H33; intro a34 H34
      refine plain (y_pick_f rfl rfl rfl) rfl rfl rfl H34 ?_
      clear H34; intro a35 H35
      refine plain (y_move rfl rfl) rfl rfl rfl H35 ?_
      clear H35; intro a36 H36
      refine Sx.part (d := 22) H36 rfl (fun hg37 => ?_) (fun hg37 => ?_)
      · first
        | fail
        | skip
          clear H36; intro H38
          try simp only [decide_eq_true_eq, decide_eq_false_iff_not, Bool.not_eq_true', Bool.not_eq_false', Bool.and_eq_true, Bool.not_eq_true, Bool.not_eq_false] at hg37
          refine skip rfl rfl rfl H38 ?_
          clear H38; intro a39 H39
          refine skip rfl rfl rfl H39 ?_
          clear H39; intro a40 H40
          refine skip rfl rfl rfl H40 ?_
          clear H40; intro a41 H41
          refine skip rfl rfl rfl H41 ?_
          clear H41; intro a42 H42
          refine skip rfl rfl rfl H42 ?_
          clear H42; intro a43 H43
          refine skip rfl rfl rfl H43 ?_
          clear H43; intro a44 H44
          refine plain (y_pick_t rfl rfl rfl) rfl rfl rfl H44 ?_
          clear H44; intro a45 H45
          refine plain (y_move rfl rfl) rfl rfl rfl H45 ?_
          clear H45; intro a46 H46
          refine skip rfl rfl rfl H46 ?_
          clear H46; intro a47 H47
          refine skip rfl rfl rfl H47 ?_
          clear H47; intro a48 H48
          refine skip rfl rfl rfl H48 ?_
          clear H48; intro a49 H49
          refine plain (y_pick_t rfl rfl rfl) rfl rfl rfl H49 ?_
          clear H49; intro a50 H50
          refine fin ?_
          refine then_n ?_
          refine cnd_t H50 rfl ?_
          refine wp_seq ?_
          refine reg ?_
          refine plain (y_build rfl z_zeroN35 z_places35 rfl lay_n) rfl rfl rfl H50 ?_
          clear H50; intro a52 H52
          refine st_storeN rfl z_size35 rfl rfl (agg_cells _) (by repeat (first | exact Uh | apply Ut)) (q_one_c4b32b32 rfl rfl rfl rfl) (q_len_c4b32b32 (by first | assumption | exact Sha.sum_length _) (by first | assumption | exact Sha.sum_length _)) (q_len_c4b32b32 (by first | assumption | exact Sha.sum_length _) (by first | assumption | exact Sha.sum_length _)) (q_spl_c4b32b32_0_c4b32b32 (by first | assumption | exact Sha.sum_length _) (by first | assumption | exact Sha.sum_length _) (by first | assumption | exact Sha.sum_length _) (by first | assumption | exact Sha.sum_length _)) (by decide) rfl rfl H52 ?_
          clear H52; intro wx53 H53
          refine plain (y_assign rfl rfl) rfl rfl rfl H53 ?_
          clear H53; intro a54 H54
          refine fin ?_
          refine then_n ?_
          refine wp_ret ?_
          refine then_r ?_
          -- return 2
          refine retct rfl H54 rfl z_agg35 z_size35 (by repeat (first | exact Mh | apply Mt)) (q_len_c4b32b32 (by first | assumption | exact Sha.sum_length _) (by first | assumption | exact Sha.sum_length _)) rfl ?_
          refine ⟨_, [], rfl, ⟨?_, rfl⟩, H54.sep.sub (List.nil_sublist _)⟩
          have hk := Note.Receipt.ok_is (⟨index, kind, time, body, prev, Note.Z⟩ : Note.Receipt)
          first | (rw [Note.link, if_neg (by rw [hk]; simp only [decide_eq_true_eq]; omega)]; rfl) | (rw [Note.link, if_pos (by rw [hk]; simp only [decide_eq_true_eq]; omega)]; rfl)
      · first
        | fail
        | skip
          clear H36; intro H55
          try simp only [decide_eq_true_eq, decide_eq_false_iff_not, Bool.not_eq_true', Bool.not_eq_false', Bool.and_eq_true, Bool.not_eq_true, Bool.not_eq_false] at hg37
          refine plain (y_move rfl rfl) rfl rfl rfl H55 ?_
          clear H55; intro a56 H56
          refine plain (y_neq rfl rfl rfl) rfl rfl rfl H56 ?_
          clear H56; intro a57 H57
          refine plain (y_move rfl rfl) rfl rfl rfl H57 ?_
          clear H57; intro a58 H58
          refine Sx.part (d := 25) H58 rfl (fun hg59 => ?_) (fun hg59 => ?_)
          · first
            | fail
            | skip
              clear H58; intro H60
              try simp only [decide_eq_true_eq, decide_eq_false_iff_not, Bool.not_eq_true', Bool.not_eq_false', Bool.and_eq_true, Bool.not_eq_true, Bool.not_eq_false] at hg59
              refine plain (y_move rfl rfl) rfl rfl rfl H60 ?_
              clear H60; intro a61 H61
              refine plain (y_neq rfl rfl rfl) rfl rfl rfl H61 ?_
              clear H61; intro a62 H62
              refine plain (y_pick_t rfl rfl rfl) rfl rfl rfl H62 ?_
              clear H62; intro a63 H63
              refine plain (y_pick_f rfl rfl rfl) rfl rfl rfl H63 ?_
              clear H63; intro a64 H64
              refine plain (y_move rfl rfl) rfl rfl rfl H64 ?_
              clear H64; intro a65 H65
              refine Sx.part (d := 30) H65 rfl (fun hg66 => ?_) (fun hg66 => ?_)
              · first
                | fail
                | skip
                  clear H65; intro H67
                  try simp only [decide_eq_true_eq, decide_eq_false_iff_not, Bool.not_eq_true', Bool.not_eq_false', Bool.and_eq_true, Bool.not_eq_true, Bool.not_eq_false] at hg66
                  refine skip rfl rfl rfl H67 ?_
                  clear H67; intro a68 H68
                  refine skip rfl rfl rfl H68 ?_
                  clear H68; intro a69 H69
                  refine skip rfl rfl rfl H69 ?_
                  clear H69; intro a70 H70
                  refine plain (y_pick_t rfl rfl rfl) rfl rfl rfl H70 ?_
                  clear H70; intro a71 H71
                  refine fin ?_
                  refine then_n ?_
                  refine cnd_t H71 rfl ?_
                  refine wp_seq ?_
                  refine reg ?_
                  refine plain (y_build rfl z_zeroN35 z_places35 rfl lay_n) rfl rfl rfl H71 ?_
                  clear H71; intro a73 H73
                  refine st_storeN rfl z_size35 rfl rfl (agg_cells _) (by repeat (first | exact Uh | apply Ut)) (q_one_c4b32b32 rfl rfl rfl rfl) (q_len_c4b32b32 (by first | assumption | exact Sha.sum_length _) (by first | assumption | exact Sha.sum_length _)) (q_len_c4b32b32 (by first | assumption | exact Sha.sum_length _) (by first | assumption | exact Sha.sum_length _)) (q_spl_c4b32b32_0_c4b32b32 (by first | assumption | exact Sha.sum_length _) (by first | assumption | exact Sha.sum_length _) (by first | assumption | exact Sha.sum_length _) (by first | assumption | exact Sha.sum_length _)) (by decide) rfl rfl H73 ?_
                  clear H73; intro wx74 H74
                  refine plain (y_assign rfl rfl) rfl rfl rfl H74 ?_
                  clear H74; intro a75 H75
                  refine fin ?_
                  refine then_n ?_
                  refine wp_ret ?_
                  refine then_r ?_
                  -- return 3
                  refine retct rfl H75 rfl z_agg35 z_size35 (by repeat (first | exact Mh | apply Mt)) (q_len_c4b32b32 (by first | assumption | exact Sha.sum_length _) (by first | assumption | exact Sha.sum_length _)) rfl ?_
                  refine ⟨_, [], rfl, ⟨?_, rfl⟩, H75.sep.sub (List.nil_sublist _)⟩
                  have hk := Note.Receipt.ok_is (⟨index, kind, time, body, prev, Note.Z⟩ : Note.Receipt)
                  first | (rw [Note.link, if_neg (by rw [hk]; simp only [decide_eq_true_eq]; omega)]; rfl) | (rw [Note.link, if_pos (by rw [hk]; simp only [decide_eq_true_eq]; omega)]; rfl)
              · first
                | fail
                | skip
                  clear H65; intro H76
                  try simp only [decide_eq_true_eq, decide_eq_false_iff_not, Bool.not_eq_true', Bool.not_eq_false', Bool.and_eq_true, Bool.not_eq_true, Bool.not_eq_false] at hg66
                  refine plain (y_move rfl rfl) rfl rfl rfl H76 ?_
                  clear H76; intro a77 H77
                  refine plain (y_slen rfl Tryd.underlying9 rfl) rfl rfl rfl H77 ?_
                  clear H77; intro a78 H78
                  refine plain (y_gtr rfl rfl rfl) rfl rfl rfl H78 ?_
                  clear H78; intro a79 H79
                  refine plain (y_pick_f rfl rfl rfl) rfl rfl rfl H79 ?_
                  clear H79; intro a80 H80
                  refine fin ?_
                  refine then_n ?_
                  refine cnd H80 rfl (fun hc81 => ?_) (fun hc81 => ?_) -- cond 4
                  · skip
                    try simp only [decide_eq_true_eq, decide_eq_false_iff_not, Bool.not_eq_true', Bool.not_eq_false', Bool.and_eq_true, Bool.not_eq_true, Bool.not_eq_false] at hc81
                    refine wp_seq ?_
                    refine reg ?_
                    refine plain (y_build rfl z_zeroN35 z_places35 rfl lay_n) rfl rfl rfl H80 ?_
                    clear H80; intro a82 H82
                    refine st_storeN rfl z_size35 rfl rfl (agg_cells _) (by repeat (first | exact Uh | apply Ut)) (q_one_c4b32b32 rfl rfl rfl rfl) (q_len_c4b32b32 (by first | assumption | exact Sha.sum_length _) (by first | assumption | exact Sha.sum_length _)) (q_len_c4b32b32 (by first | assumption | exact Sha.sum_length _) (by first | assumption | exact Sha.sum_length _)) (q_spl_c4b32b32_0_c4b32b32 (by first | assumption | exact Sha.sum_length _) (by first | assumption | exact Sha.sum_length _) (by first | assumption | exact Sha.sum_length _) (by first | assumption | exact Sha.sum_length _)) (by decide) rfl rfl H82 ?_
                    clear H82; intro wx83 H83
                    refine plain (y_assign rfl rfl) rfl rfl rfl H83 ?_
                    clear H83; intro a84 H84
                    refine fin ?_
                    refine then_n ?_
                    refine wp_ret ?_
                    refine then_r ?_
                    -- return 4
                    refine retct rfl H84 rfl z_agg35 z_size35 (by repeat (first | exact Mh | apply Mt)) (q_len_c4b32b32 (by first | assumption | exact Sha.sum_length _) (by first | assumption | exact Sha.sum_length _)) rfl ?_
                    refine ⟨_, [], rfl, ⟨?_, rfl⟩, H84.sep.sub (List.nil_sublist _)⟩
                    have hk := Note.Receipt.ok_is (⟨index, kind, time, body, prev, Note.Z⟩ : Note.Receipt)
                    first | (rw [Note.link, if_neg (by rw [hk]; simp only [decide_eq_true_eq]; omega)]; rfl) | (rw [Note.link, if_pos (by rw [hk]; simp only [decide_eq_true_eq]; omega)]; rfl)
                  · skip
                    try simp only [decide_eq_true_eq, decide_eq_false_iff_not, Bool.not_eq_true', Bool.not_eq_false', Bool.and_eq_true, Bool.not_eq_true, Bool.not_eq_false] at hc81
                    refine wp_skip ?_
                    refine then_n ?_
                    refine wp_seq ?_
                    refine reg ?_
                    refine plain (y_move rfl rfl) rfl rfl rfl H80 ?_
                    clear H80; intro a85 H85
                    refine st_callg rfl z_call39 rfl rfl rfl rfl H85 (rtext _ (by first | exact hi.2 | exact hkd.2 | exact hti.2) _) ?_
                    clear H85; intro a86 wx86 H86
                    refine plain (y_move rfl rfl) rfl rfl rfl H86 ?_
                    clear H86; intro a87 H87
                    refine st_callg rfl z_call39 rfl rfl rfl rfl H87 (rtext _ (by first | exact hi.2 | exact hkd.2 | exact hti.2) _) ?_
                    clear H87; intro a88 wx88 H88
                    refine plain (y_move rfl rfl) rfl rfl rfl H88 ?_
                    clear H88; intro a89 H89
                    refine st_callg rfl z_call39 rfl rfl rfl rfl H89 (rtext _ (by first | exact hi.2 | exact hkd.2 | exact hti.2) _) ?_
                    clear H89; intro a90 wx90 H90
                    refine plain (y_move rfl rfl) rfl rfl rfl H90 ?_
                    clear H90; intro a91 H91
                    refine st_buildSlice1 (xs := [.tmp 38, .tmp 40, .tmp 42, .tmp 43]) rfl Tryd.underlying49 z_size9 z_zero9 rfl rfl rfl rfl rfl rfl rfl rfl rfl H91 ?_
                    clear H91; intro b92 a92 wx92 H92
                    refine st_callg rfl z_call38 rfl rfl rfl rfl H92 (rlist [Note.num index, Note.num kind, Note.num time, body] _ _ _ rfl (Rd.ofSep (rd_blkA (by repeat (first | exact Mh | apply Mt))) H92.sep) (by simp)) ?_
                    clear H92; intro a93 wx93 H93
                    refine plain (y_move rfl rfl) rfl rfl rfl H93 ?_
                    clear H93; intro a94 H94
                    refine plain (y_extract rfl rfl rfl) rfl rfl rfl H94 ?_
                    clear H94; intro a95 H95
                    refine plain (y_extract rfl rfl rfl) rfl rfl rfl H95 ?_
                    clear H95; intro a96 H96
                    refine plain (y_assign rfl rfl) rfl rfl rfl H96 ?_
                    clear H96; intro a97 H97
                    refine plain (y_assign rfl rfl) rfl rfl rfl H97 ?_
                    clear H97; intro a98 H98
                    refine fin ?_
                    refine then_n ?_
                    refine wp_seq ?_
                    refine hreg [It.blk b1 23 (prev.map u8)] (fun _ h => (h.sub (by first | exact S0 | exact S1 | repeat (first | exact S1 | exact S0 | apply S2 | apply S3)))) (by kernel_rfl) H98 ?_
                    clear H98; intro wx99 H99
                    refine htake 0 rfl (by kernel_rfl) (y_move rfl rfl) rfl rfl rfl (fun _ h => (h.sub (by first | exact S0 | exact S1 | repeat (first | exact S1 | exact S0 | apply S2 | apply S3)))) H99 ?_
                    clear H99; intro a100 H100
                    refine htake 1 rfl (by kernel_rfl) (y_move rfl rfl) rfl rfl rfl (fun _ h => (h.sub (by first | exact S0 | exact S1 | repeat (first | exact S1 | exact S0 | apply S2 | apply S3)))) H100 ?_
                    clear H100; intro a101 H101
                    refine htake 2 rfl (by kernel_rfl) (y_move rfl rfl) rfl rfl rfl (fun _ h => (h.sub (by first | exact S0 | exact S1 | repeat (first | exact S1 | exact S0 | apply S2 | apply S3)))) H101 ?_
                    clear H101; intro a102 H102
                    refine htake 3 rfl (by kernel_rfl) (y_move rfl rfl) rfl rfl rfl (fun _ h => (h.sub (by first | exact S0 | exact S1 | repeat (first | exact S1 | exact S0 | apply S2 | apply S3)))) H102 ?_
                    clear H102; intro a103 H103
                    refine htake 4 rfl (by kernel_rfl) (y_loadAB rfl z_agg23 z_size23 rfl (by repeat (first | exact Mh | apply Mt)) (q_ld_b32_0_32 (by first | assumption | exact Sha.sum_length _)) (q_len_b32 (by first | assumption | exact Sha.sum_length _))) rfl rfl rfl (fun _ h => (h.sub (by first | exact S0 | exact S1 | repeat (first | exact S1 | exact S0 | apply S2 | apply S3)))) H103 ?_
                    clear H103; intro a104 H104
                    refine htake 5 rfl (by kernel_rfl) (y_loadAB rfl z_agg23 z_size23 rfl (by repeat (first | exact Mh | apply Mt)) (q_ld_b32_0_32 (by first | assumption | exact Sha.sum_length _)) (q_len_b32 (by first | assumption | exact Sha.sum_length _))) rfl rfl rfl (fun _ h => (h.sub (by first | exact S0 | exact S1 | repeat (first | exact S1 | exact S0 | apply S2 | apply S3)))) H104 ?_
                    clear H104; intro a105 H105
                    refine htake 6 rfl (by kernel_rfl) (y_move rfl rfl) rfl rfl rfl (fun _ h => (h.sub (by first | exact S0 | exact S1 | repeat (first | exact S1 | exact S0 | apply S2 | apply S3)))) H105 ?_
                    clear H105; intro a106 H106
                    refine hgo 7 rfl (by kernel_rfl) ?_
                    refine st_callg rfl z_call46 rfl rfl rfl rfl H106 (rchain prev hp _ (by have := Oct.list_len (l := [Note.num index, Note.num kind, Note.num time, body]); omega)) ?_
                    clear H106; intro a107 wx107 H107
                    refine hfin (H107.sep.sub (by first | exact S0 | exact S1 | repeat (first | exact S1 | exact S0 | apply S2 | apply S3))) ?_
                    refine htake 8 rfl (by kernel_rfl) (y_build rfl z_zeroN35 z_places35 rfl (lay_1 (off := 0) (n := 68) rfl (q_len_c4b32b32 (by first | assumption | exact Sha.sum_length _) (by first | assumption | exact Sha.sum_length _)) (by decide) q_spl_c4b32b32_0_c1 (lay_1 (off := 1) (n := 68) rfl (q_len_c4b32b32 (by first | assumption | exact Sha.sum_length _) (by first | assumption | exact Sha.sum_length _)) (by decide) q_spl_c4b32b32_1_c1 (lay_1 (off := 2) (n := 68) rfl (q_len_c4b32b32 (by first | assumption | exact Sha.sum_length _) (by first | assumption | exact Sha.sum_length _)) (by decide) q_spl_c4b32b32_2_c1 (lay_1 (off := 3) (n := 68) rfl (q_len_c4b32b32 (by first | assumption | exact Sha.sum_length _) (by first | assumption | exact Sha.sum_length _)) (by decide) q_spl_c4b32b32_3_c1 (lay_f (off := 4) (z := 32) (n := 68) rfl (agg_cells _) (q_len_b32 (by first | assumption | exact Sha.sum_length _)) (q_len_c4b32b32 (by first | assumption | exact Sha.sum_length _) (by first | assumption | exact Sha.sum_length _)) (by decide) (q_spl_c4b32b32_4_b32 (by first | assumption | exact Sha.sum_length _) (by first | assumption | exact Sha.sum_length _)) (lay_f (off := 36) (z := 32) (n := 68) rfl (agg_cells _) (q_len_b32 (by first | assumption | exact Sha.sum_length _)) (q_len_c4b32b32 (by first | assumption | exact Sha.sum_length _) (by first | assumption | exact Sha.sum_length _)) (by decide) (q_spl_c4b32b32_36_b32 (by first | assumption | exact Sha.sum_length _) (by first | assumption | exact Sha.sum_length _) (by first | assumption | exact Sha.sum_length _)) lay_n)) (by rfl)) (by rfl)) (by rfl)) (by rfl))) rfl rfl rfl (fun _ h => (h.sub (by first | exact S0 | exact S1 | repeat (first | exact S1 | exact S0 | apply S2 | apply S3)))) H107 ?_
                    clear H107; intro a108 H108
                    refine hgo 9 rfl (by kernel_rfl) ?_
                    refine st_storeN rfl z_size35 rfl rfl (agg_cells _) (by repeat (first | exact Uh | apply Ut)) (q_one_c4b32b32 rfl rfl rfl rfl) (q_len_c4b32b32 (by first | assumption | exact Sha.sum_length _) (by first | assumption | exact Sha.sum_length _)) (q_len_c4b32b32 (by first | assumption | exact Sha.sum_length _) (by first | assumption | exact Sha.sum_length _)) (q_spl_c4b32b32_0_c4b32b32 (by first | assumption | exact Sha.sum_length _) (by first | assumption | exact Sha.sum_length _) (by first | assumption | exact Sha.sum_length _) (by first | assumption | exact Sha.sum_length _)) (by decide) rfl rfl H108 ?_
                    clear H108; intro wx109 H109
                    refine hfin (H109.sep.sub (by first | exact S0 | exact S1 | repeat (first | exact S1 | exact S0 | apply S2 | apply S3))) ?_
                    refine htake 10 rfl (by kernel_rfl) (y_assign rfl rfl) rfl rfl rfl (fun _ h => (h.sub (by first | exact S0 | exact S1 | repeat (first | exact S1 | exact S0 | apply S2 | apply S3)))) H109 ?_
                    clear H109; intro a110 H110
                    refine hdone (by kernel_rfl) ?_
                    refine then_n ?_
                    refine wp_ret ?_
                    -- return 5
                    refine retct rfl H110 rfl z_agg35 z_size35 (by repeat (first | exact Mh | apply Mt)) (q_len_c4b32b32 (by first | assumption | exact Sha.sum_length _) (by first | assumption | exact Sha.sum_length _)) rfl ?_
                    refine ⟨_, [], rfl, ⟨?_, rfl⟩, H110.sep.sub (List.nil_sublist _)⟩
                    have hk := Note.Receipt.ok_is (⟨index, kind, time, body, prev, Note.Z⟩ : Note.Receipt)
                    first | (rw [Note.link, if_neg (by rw [hk]; simp only [decide_eq_true_eq]; omega)]; rfl) | (rw [Note.link, if_pos (by rw [hk]; simp only [decide_eq_true_eq]; omega)]; rfl)
          · first
            | fail
            | skip
              clear H58; intro H111
              try simp only [decide_eq_true_eq, decide_eq_false_iff_not, Bool.not_eq_true', Bool.not_eq_false', Bool.and_eq_true, Bool.not_eq_true, Bool.not_eq_false] at hg59
              refine skip rfl rfl rfl H111 ?_
              clear H111; intro a112 H112
              refine skip rfl rfl rfl H112 ?_
              clear H112; intro a113 H113
              refine plain (y_pick_f rfl rfl rfl) rfl rfl rfl H113 ?_
              clear H113; intro a114 H114
              refine plain (y_pick_f rfl rfl rfl) rfl rfl rfl H114 ?_
              clear H114; intro a115 H115
              refine plain (y_move rfl rfl) rfl rfl rfl H115 ?_
              clear H115; intro a116 H116
              refine plain (y_move rfl rfl) rfl rfl rfl H116 ?_
              clear H116; intro a117 H117
              refine plain (y_slen rfl Tryd.underlying9 rfl) rfl rfl rfl H117 ?_
              clear H117; intro a118 H118
              refine plain (y_gtr rfl rfl rfl) rfl rfl rfl H118 ?_
              clear H118; intro a119 H119
              refine plain (y_pick_f rfl rfl rfl) rfl rfl rfl H119 ?_
              clear H119; intro a120 H120
              refine fin ?_
              refine then_n ?_
              refine cnd H120 rfl (fun hc121 => ?_) (fun hc121 => ?_) -- cond 5
              · skip
                try simp only [decide_eq_true_eq, decide_eq_false_iff_not, Bool.not_eq_true', Bool.not_eq_false', Bool.and_eq_true, Bool.not_eq_true, Bool.not_eq_false] at hc121
                refine wp_seq ?_
                refine reg ?_
                refine plain (y_build rfl z_zeroN35 z_places35 rfl lay_n) rfl rfl rfl H120 ?_
                clear H120; intro a122 H122
                refine st_storeN rfl z_size35 rfl rfl (agg_cells _) (by repeat (first | exact Uh | apply Ut)) (q_one_c4b32b32 rfl rfl rfl rfl) (q_len_c4b32b32 (by first | assumption | exact Sha.sum_length _) (by first | assumption | exact Sha.sum_length _)) (q_len_c4b32b32 (by first | assumption | exact Sha.sum_length _) (by first | assumption | exact Sha.sum_length _)) (q_spl_c4b32b32_0_c4b32b32 (by first | assumption | exact Sha.sum_length _) (by first | assumption | exact Sha.sum_length _) (by first | assumption | exact Sha.sum_length _) (by first | assumption | exact Sha.sum_length _)) (by decide) rfl rfl H122 ?_
                clear H122; intro wx123 H123
                refine plain (y_assign rfl rfl) rfl rfl rfl H123 ?_
                clear H123; intro a124 H124
                refine fin ?_
                refine then_n ?_
                refine wp_ret ?_
                refine then_r ?_
                -- return 6
                refine retct rfl H124 rfl z_agg35 z_size35 (by repeat (first | exact Mh | apply Mt)) (q_len_c4b32b32 (by first | assumption | exact Sha.sum_length _) (by first | assumption | exact Sha.sum_length _)) rfl ?_
                refine ⟨_, [], rfl, ⟨?_, rfl⟩, H124.sep.sub (List.nil_sublist _)⟩
                have hk := Note.Receipt.ok_is (⟨index, kind, time, body, prev, Note.Z⟩ : Note.Receipt)
                first | (rw [Note.link, if_neg (by rw [hk]; simp only [decide_eq_true_eq]; omega)]; rfl) | (rw [Note.link, if_pos (by rw [hk]; simp only [decide_eq_true_eq]; omega)]; rfl)
              · skip
                try simp only [decide_eq_true_eq, decide_eq_false_iff_not, Bool.not_eq_true', Bool.not_eq_false', Bool.and_eq_true, Bool.not_eq_true, Bool.not_eq_false] at hc121
                refine wp_skip ?_
                refine then_n ?_
                refine wp_seq ?_
                refine reg ?_
                refine plain (y_move rfl rfl) rfl rfl rfl H120 ?_
                clear H120; intro a125 H125
                refine st_callg rfl z_call39 rfl rfl rfl rfl H125 (rtext _ (by first | exact hi.2 | exact hkd.2 | exact hti.2) _) ?_
                clear H125; intro a126 wx126 H126
                refine plain (y_move rfl rfl) rfl rfl rfl H126 ?_
                clear H126; intro a127 H127
                refine st_callg rfl z_call39 rfl rfl rfl rfl H127 (rtext _ (by first | exact hi.2 | exact hkd.2 | exact hti.2) _) ?_
                clear H127; intro a128 wx128 H128
                refine plain (y_move rfl rfl) rfl rfl rfl H128 ?_
                clear H128; intro a129 H129
                refine st_callg rfl z_call39 rfl rfl rfl rfl H129 (rtext _ (by first | exact hi.2 | exact hkd.2 | exact hti.2) _) ?_
                clear H129; intro a130 wx130 H130
                refine plain (y_move rfl rfl) rfl rfl rfl H130 ?_
                clear H130; intro a131 H131
                refine st_buildSlice1 (xs := [.tmp 38, .tmp 40, .tmp 42, .tmp 43]) rfl Tryd.underlying49 z_size9 z_zero9 rfl rfl rfl rfl rfl rfl rfl rfl rfl H131 ?_
                clear H131; intro b132 a132 wx132 H132
                refine st_callg rfl z_call38 rfl rfl rfl rfl H132 (rlist [Note.num index, Note.num kind, Note.num time, body] _ _ _ rfl (Rd.ofSep (rd_blkA (by repeat (first | exact Mh | apply Mt))) H132.sep) (by simp)) ?_
                clear H132; intro a133 wx133 H133
                refine plain (y_move rfl rfl) rfl rfl rfl H133 ?_
                clear H133; intro a134 H134
                refine plain (y_extract rfl rfl rfl) rfl rfl rfl H134 ?_
                clear H134; intro a135 H135
                refine plain (y_extract rfl rfl rfl) rfl rfl rfl H135 ?_
                clear H135; intro a136 H136
                refine plain (y_assign rfl rfl) rfl rfl rfl H136 ?_
                clear H136; intro a137 H137
                refine plain (y_assign rfl rfl) rfl rfl rfl H137 ?_
                clear H137; intro a138 H138
                refine fin ?_
                refine then_n ?_
                refine wp_seq ?_
                refine hreg [It.blk b1 23 (prev.map u8)] (fun _ h => (h.sub (by first | exact S0 | exact S1 | repeat (first | exact S1 | exact S0 | apply S2 | apply S3)))) (by kernel_rfl) H138 ?_
                clear H138; intro wx139 H139
                refine htake 0 rfl (by kernel_rfl) (y_move rfl rfl) rfl rfl rfl (fun _ h => (h.sub (by first | exact S0 | exact S1 | repeat (first | exact S1 | exact S0 | apply S2 | apply S3)))) H139 ?_
                clear H139; intro a140 H140
                refine htake 1 rfl (by kernel_rfl) (y_move rfl rfl) rfl rfl rfl (fun _ h => (h.sub (by first | exact S0 | exact S1 | repeat (first | exact S1 | exact S0 | apply S2 | apply S3)))) H140 ?_
                clear H140; intro a141 H141
                refine htake 2 rfl (by kernel_rfl) (y_move rfl rfl) rfl rfl rfl (fun _ h => (h.sub (by first | exact S0 | exact S1 | repeat (first | exact S1 | exact S0 | apply S2 | apply S3)))) H141 ?_
                clear H141; intro a142 H142
                refine htake 3 rfl (by kernel_rfl) (y_move rfl rfl) rfl rfl rfl (fun _ h => (h.sub (by first | exact S0 | exact S1 | repeat (first | exact S1 | exact S0 | apply S2 | apply S3)))) H142 ?_
                clear H142; intro a143 H143
                refine htake 4 rfl (by kernel_rfl) (y_loadAB rfl z_agg23 z_size23 rfl (by repeat (first | exact Mh | apply Mt)) (q_ld_b32_0_32 (by first | assumption | exact Sha.sum_length _)) (q_len_b32 (by first | assumption | exact Sha.sum_length _))) rfl rfl rfl (fun _ h => (h.sub (by first | exact S0 | exact S1 | repeat (first | exact S1 | exact S0 | apply S2 | apply S3)))) H143 ?_
                clear H143; intro a144 H144
                refine htake 5 rfl (by kernel_rfl) (y_loadAB rfl z_agg23 z_size23 rfl (by repeat (first | exact Mh | apply Mt)) (q_ld_b32_0_32 (by first | assumption | exact Sha.sum_length _)) (q_len_b32 (by first | assumption | exact Sha.sum_length _))) rfl rfl rfl (fun _ h => (h.sub (by first | exact S0 | exact S1 | repeat (first | exact S1 | exact S0 | apply S2 | apply S3)))) H144 ?_
                clear H144; intro a145 H145
                refine htake 6 rfl (by kernel_rfl) (y_move rfl rfl) rfl rfl rfl (fun _ h => (h.sub (by first | exact S0 | exact S1 | repeat (first | exact S1 | exact S0 | apply S2 | apply S3)))) H145 ?_
                clear H145; intro a146 H146
                refine hgo 7 rfl (by kernel_rfl) ?_
                refine st_callg rfl z_call46 rfl rfl rfl rfl H146 (rchain prev hp _ (by have := Oct.list_len (l := [Note.num index, Note.num kind, Note.num time, body]); omega)) ?_
                clear H146; intro a147 wx147 H147
                refine hfin (H147.sep.sub (by first | exact S0 | exact S1 | repeat (first | exact S1 | exact S0 | apply S2 | apply S3))) ?_
                refine htake 8 rfl (by kernel_rfl) (y_build rfl z_zeroN35 z_places35 rfl (lay_1 (off := 0) (n := 68) rfl (q_len_c4b32b32 (by first | assumption | exact Sha.sum_length _) (by first | assumption | exact Sha.sum_length _)) (by decide) q_spl_c4b32b32_0_c1 (lay_1 (off := 1) (n := 68) rfl (q_len_c4b32b32 (by first | assumption | exact Sha.sum_length _) (by first | assumption | exact Sha.sum_length _)) (by decide) q_spl_c4b32b32_1_c1 (lay_1 (off := 2) (n := 68) rfl (q_len_c4b32b32 (by first | assumption | exact Sha.sum_length _) (by first | assumption | exact Sha.sum_length _)) (by decide) q_spl_c4b32b32_2_c1 (lay_1 (off := 3) (n := 68) rfl (q_len_c4b32b32 (by first | assumption | exact Sha.sum_length _) (by first | assumption | exact Sha.sum_length _)) (by decide) q_spl_c4b32b32_3_c1 (lay_f (off := 4) (z := 32) (n := 68) rfl (agg_cells _) (q_len_b32 (by first | assumption | exact Sha.sum_length _)) (q_len_c4b32b32 (by first | assumption | exact Sha.sum_length _) (by first | assumption | exact Sha.sum_length _)) (by decide) (q_spl_c4b32b32_4_b32 (by first | assumption | exact Sha.sum_length _) (by first | assumption | exact Sha.sum_length _)) (lay_f (off := 36) (z := 32) (n := 68) rfl (agg_cells _) (q_len_b32 (by first | assumption | exact Sha.sum_length _)) (q_len_c4b32b32 (by first | assumption | exact Sha.sum_length _) (by first | assumption | exact Sha.sum_length _)) (by decide) (q_spl_c4b32b32_36_b32 (by first | assumption | exact Sha.sum_length _) (by first | assumption | exact Sha.sum_length _) (by first | assumption | exact Sha.sum_length _)) lay_n)) (by rfl)) (by rfl)) (by rfl)) (by rfl))) rfl rfl rfl (fun _ h => (h.sub (by first | exact S0 | exact S1 | repeat (first | exact S1 | exact S0 | apply S2 | apply S3)))) H147 ?_
                clear H147; intro a148 H148
                refine hgo 9 rfl (by kernel_rfl) ?_
                refine st_storeN rfl z_size35 rfl rfl (agg_cells _) (by repeat (first | exact Uh | apply Ut)) (q_one_c4b32b32 rfl rfl rfl rfl) (q_len_c4b32b32 (by first | assumption | exact Sha.sum_length _) (by first | assumption | exact Sha.sum_length _)) (q_len_c4b32b32 (by first | assumption | exact Sha.sum_length _) (by first | assumption | exact Sha.sum_length _)) (q_spl_c4b32b32_0_c4b32b32 (by first | assumption | exact Sha.sum_length _) (by first | assumption | exact Sha.sum_length _) (by first | assumption | exact Sha.sum_length _) (by first | assumption | exact Sha.sum_length _)) (by decide) rfl rfl H148 ?_
                clear H148; intro wx149 H149
                refine hfin (H149.sep.sub (by first | exact S0 | exact S1 | repeat (first | exact S1 | exact S0 | apply S2 | apply S3))) ?_
                refine htake 10 rfl (by kernel_rfl) (y_assign rfl rfl) rfl rfl rfl (fun _ h => (h.sub (by first | exact S0 | exact S1 | repeat (first | exact S1 | exact S0 | apply S2 | apply S3)))) H149 ?_
                clear H149; intro a150 H150
                refine hdone (by kernel_rfl) ?_
                refine then_n ?_
                refine wp_ret ?_
                -- return 7
                refine retct rfl H150 rfl z_agg35 z_size35 (by repeat (first | exact Mh | apply Mt)) (q_len_c4b32b32 (by first | assumption | exact Sha.sum_length _) (by first | assumption | exact Sha.sum_length _)) rfl ?_
                refine ⟨_, [], rfl, ⟨?_, rfl⟩, H150.sep.sub (List.nil_sublist _)⟩
                have hk := Note.Receipt.ok_is (⟨index, kind, time, body, prev, Note.Z⟩ : Note.Receipt)
                first | (rw [Note.link, if_neg (by rw [hk]; simp only [decide_eq_true_eq]; omega)]; rfl) | (rw [Note.link, if_pos (by rw [hk]; simp only [decide_eq_true_eq]; omega)]; rfl)
end Go.Proofs.YtnnhnnhdoipbaaaDoor.N_RefR

set_option linter.unusedVariables false
set_option linter.unusedSimpArgs false
namespace Go.Proofs.YtnnhnnhdoipbaaaDoor.N_RWBatch
open Go.Sx Go.RowKit Go.Proofs.YtnnhnnhdoipbaaaDoor.N_Block Go.Proofs.YtnnhnnhdoipbaaaDoor.N_Sum Go.Proofs.YtnnhnnhdoipbaaaDoor.N_Ref Go.Proofs.YtnnhnnhdoipbaaaDoor.N_RSum Go.Proofs.YtnnhnnhdoipbaaaDoor.N_Leaf Go.Proofs.YtnnhnnhdoipbaaaDoor.N_Num Go.Proofs.YtnnhnnhdoipbaaaDoor.N_Key Go.Proofs.YtnnhnnhdoipbaaaDoor.N_Ref Go.Proofs.YtnnhnnhdoipbaaaDoor.N_RSum Go.Proofs.YtnnhnnhdoipbaaaDoor.N_Tag Go.Proofs.YtnnhnnhdoipbaaaDoor.N_Read Go.Proofs.YtnnhnnhdoipbaaaDoor.N_Lay Go.Proofs.YtnnhnnhdoipbaaaDoor.N_Eq Go.Proofs.YtnnhnnhdoipbaaaDoor.N_Ref0

theorem z_agg9 : aggB Tryd.prog 9 = some false := by kernel_rfl
theorem z_agg3 : aggB Tryd.prog 3 = some false := by kernel_rfl
theorem z_call45 : callB Tryd.prog 45 = true := by kernel_rfl
theorem z_call39 : callB Tryd.prog 39 = true := by kernel_rfl
theorem z_size9 : sizeB Tryd.prog 9 = some 1 := by kernel_rfl
theorem z_zero9 : zeroL Tryd.prog 9 = some ([.string ⟨#[]⟩]) := by kernel_rfl
theorem z_slice49 : sliceB Tryd.prog 49 = some (9, 1, 16) := by kernel_rfl
theorem z_notint49 : notIntB Tryd.prog 49 = true := by kernel_rfl
theorem z_call38 : callB Tryd.prog 38 = true := by kernel_rfl

end Go.Proofs.YtnnhnnhdoipbaaaDoor.N_RWBatch

set_option linter.unusedVariables false
set_option linter.unusedSimpArgs false
namespace Go.Proofs.YtnnhnnhdoipbaaaDoor.N_RRBatch
open Go.Sx Go.RowKit Go.Proofs.YtnnhnnhdoipbaaaDoor.N_Block Go.Proofs.YtnnhnnhdoipbaaaDoor.N_Sum Go.Proofs.YtnnhnnhdoipbaaaDoor.N_Ref Go.Proofs.YtnnhnnhdoipbaaaDoor.N_RSum Go.Proofs.YtnnhnnhdoipbaaaDoor.N_Leaf Go.Proofs.YtnnhnnhdoipbaaaDoor.N_Num Go.Proofs.YtnnhnnhdoipbaaaDoor.N_Key Go.Proofs.YtnnhnnhdoipbaaaDoor.N_Ref Go.Proofs.YtnnhnnhdoipbaaaDoor.N_RSum Go.Proofs.YtnnhnnhdoipbaaaDoor.N_Tag Go.Proofs.YtnnhnnhdoipbaaaDoor.N_Read Go.Proofs.YtnnhnnhdoipbaaaDoor.N_Lay Go.Proofs.YtnnhnnhdoipbaaaDoor.N_Eq Go.Proofs.YtnnhnnhdoipbaaaDoor.N_Ref0 Go.Proofs.YtnnhnnhdoipbaaaDoor.N_RWBatch

theorem z_size3 : sizeB Tryd.prog 3 = some 1 := by kernel_rfl
theorem z_agg3 : aggB Tryd.prog 3 = some false := by kernel_rfl
theorem z_size9 : sizeB Tryd.prog 9 = some 1 := by kernel_rfl
theorem z_agg9 : aggB Tryd.prog 9 = some false := by kernel_rfl
theorem z_call45 : callB Tryd.prog 45 = true := by kernel_rfl
end Go.Proofs.YtnnhnnhdoipbaaaDoor.N_RRBatch

set_option linter.unusedVariables false
set_option linter.unusedSimpArgs false
namespace Go.Proofs.YtnnhnnhdoipbaaaDoor.N_Aw
open Go.Sx Go.RowKit Go.Proofs.YtnnhnnhdoipbaaaDoor.N_Block Go.Proofs.YtnnhnnhdoipbaaaDoor.N_Sum Go.Proofs.YtnnhnnhdoipbaaaDoor.N_Ref Go.Proofs.YtnnhnnhdoipbaaaDoor.N_RSum Go.Proofs.YtnnhnnhdoipbaaaDoor.N_Leaf Go.Proofs.YtnnhnnhdoipbaaaDoor.N_Num Go.Proofs.YtnnhnnhdoipbaaaDoor.N_Key Go.Proofs.YtnnhnnhdoipbaaaDoor.N_Ref Go.Proofs.YtnnhnnhdoipbaaaDoor.N_RSum Go.Proofs.YtnnhnnhdoipbaaaDoor.N_Tag Go.Proofs.YtnnhnnhdoipbaaaDoor.N_Read Go.Proofs.YtnnhnnhdoipbaaaDoor.N_Lay Go.Proofs.YtnnhnnhdoipbaaaDoor.N_Eq Go.Proofs.YtnnhnnhdoipbaaaDoor.N_Ref0 Go.Proofs.YtnnhnnhdoipbaaaDoor.N_Rec Go.Proofs.YtnnhnnhdoipbaaaDoor.N_RRec Go.Proofs.YtnnhnnhdoipbaaaDoor.N_Fields Go.Proofs.YtnnhnnhdoipbaaaDoor.N_RBid Go.Proofs.YtnnhnnhdoipbaaaDoor.N_Sign Go.Proofs.YtnnhnnhdoipbaaaDoor.N_Item Go.Proofs.YtnnhnnhdoipbaaaDoor.N_WBatch Go.Proofs.YtnnhnnhdoipbaaaDoor.N_RBatch Go.Proofs.YtnnhnnhdoipbaaaDoor.N_RefB Go.Proofs.YtnnhnnhdoipbaaaDoor.N_RefI Go.Proofs.YtnnhnnhdoipbaaaDoor.N_RefR Go.Proofs.YtnnhnnhdoipbaaaDoor.N_RWBatch Go.Proofs.YtnnhnnhdoipbaaaDoor.N_RRBatch

theorem z_zeroN25 : zeroL Tryd.prog 25 = some ((.int .i64 0 :: (.int .i64 0 :: (.int .i64 0 :: (.int .i64 0 :: (List.replicate 32 (0 : UInt8)).map u8))))) := by kernel_rfl
theorem z_places25 : placesB Tryd.prog 25 = some [(0, 1), (1, 1), (2, 1), (3, 1), (4, 32)] := by kernel_rfl
theorem q_len_c4b32 {a0 a1 a2 a3 : Value} {t4 : List UInt8} (h4 : t4.length = 32) : (a0 :: a1 :: a2 :: a3 :: t4.map u8).length = 36 := (len_c (n := 35) (len_c (n := 34) (len_c (n := 33) (len_c (n := 32) (len_e (k := 32) h4)))))
theorem q_spl_c4b32_0_c1 {a0 a1 a2 a3 : Value} {t4 : List UInt8} {b0 : Value} : spl (a0 :: a1 :: a2 :: a3 :: t4.map u8) 0 (b0 :: []) = b0 :: a1 :: a2 :: a3 :: t4.map u8 := spl_0
theorem q_spl_c4b32_1_c1 {a0 a1 a2 a3 : Value} {t4 : List UInt8} {b0 : Value} : spl (a0 :: a1 :: a2 :: a3 :: t4.map u8) 1 (b0 :: []) = a0 :: b0 :: a2 :: a3 :: t4.map u8 := (spl_c (o := 0) spl_0)
theorem q_spl_c4b32_2_c1 {a0 a1 a2 a3 : Value} {t4 : List UInt8} {b0 : Value} : spl (a0 :: a1 :: a2 :: a3 :: t4.map u8) 2 (b0 :: []) = a0 :: a1 :: b0 :: a3 :: t4.map u8 := (spl_c (o := 1) (spl_c (o := 0) spl_0))
theorem z_call12 : callB Tryd.prog 12 = true := by kernel_rfl
theorem z_size25 : sizeB Tryd.prog 25 = some 36 := by kernel_rfl
theorem q_one_c4b32 {a0 a1 a2 a3 : Value} {t4 : List UInt8} (o0 : a0.oneCell' = true) (o1 : a1.oneCell' = true) (o2 : a2.oneCell' = true) (o3 : a3.oneCell' = true) : (a0 :: a1 :: a2 :: a3 :: t4.map u8).all (·.oneCell') = true := (one_c o0 (one_c o1 (one_c o2 (one_c o3 (one_u8 _)))))
theorem q_spl_c4b32_0_c4b32 {a0 a1 a2 a3 : Value} {t4 : List UInt8} {b0 b1 b2 b3 : Value} {s4 : List UInt8} (h4 : t4.length = 32) (g4 : s4.length = 32) : spl (a0 :: a1 :: a2 :: a3 :: t4.map u8) 0 (b0 :: b1 :: b2 :: b3 :: s4.map u8) = b0 :: b1 :: b2 :: b3 :: s4.map u8 := (spl_a (z := 36) (len_c (n := 35) (len_c (n := 34) (len_c (n := 33) (len_c (n := 32) (len_e (k := 32) h4))))) (len_c (n := 35) (len_c (n := 34) (len_c (n := 33) (len_c (n := 32) (len_e (k := 32) g4))))))
theorem z_agg25 : aggB Tryd.prog 25 = some true := by kernel_rfl
theorem q_ld_c4b32_0_36 {a0 a1 a2 a3 : Value} {t4 : List UInt8} (h4 : t4.length = 32) : ((a0 :: a1 :: a2 :: a3 :: t4.map u8).drop 0).take 36 = a0 :: a1 :: a2 :: a3 :: t4.map u8 := (ld_a (len_c (n := 35) (len_c (n := 34) (len_c (n := 33) (len_c (n := 32) (len_e (k := 32) h4))))))
theorem z_call10 : callB Tryd.prog 10 = true := by kernel_rfl
theorem z_call26 : callB Tryd.prog 26 = true := by kernel_rfl
theorem z_zeroN23 : zeroL Tryd.prog 23 = some ((List.replicate 32 (0 : UInt8)).map u8) := by kernel_rfl
theorem z_size5 : sizeB Tryd.prog 5 = some 1 := by kernel_rfl
theorem z_call19 : callB Tryd.prog 19 = true := by kernel_rfl
theorem z_zeroN35 : zeroL Tryd.prog 35 = some ((.int .i64 0 :: (.int .i64 0 :: (.int .i64 0 :: (.string ⟨#[]⟩ :: ((List.replicate 32 (0 : UInt8)).map u8 ++ (List.replicate 32 (0 : UInt8)).map u8)))))) := by kernel_rfl
theorem z_size35 : sizeB Tryd.prog 35 = some 68 := by kernel_rfl
theorem q_one_c4b32b32 {a0 a1 a2 a3 : Value} {t4 t5 : List UInt8} (o0 : a0.oneCell' = true) (o1 : a1.oneCell' = true) (o2 : a2.oneCell' = true) (o3 : a3.oneCell' = true) : (a0 :: a1 :: a2 :: a3 :: (t4.map u8 ++ (t5.map u8))).all (·.oneCell') = true := (one_c o0 (one_c o1 (one_c o2 (one_c o3 (one_b (one_u8 _))))))
theorem q_len_c4b32b32 {a0 a1 a2 a3 : Value} {t4 t5 : List UInt8} (h4 : t4.length = 32) (h5 : t5.length = 32) : (a0 :: a1 :: a2 :: a3 :: (t4.map u8 ++ (t5.map u8))).length = 68 := (len_c (n := 67) (len_c (n := 66) (len_c (n := 65) (len_c (n := 64) (len_b (k := 32) (n := 32) h4 (len_e (k := 32) h5))))))
theorem q_spl_c4b32b32_0_c4b32b32 {a0 a1 a2 a3 : Value} {t4 t5 : List UInt8} {b0 b1 b2 b3 : Value} {s4 s5 : List UInt8} (h4 : t4.length = 32) (h5 : t5.length = 32) (g4 : s4.length = 32) (g5 : s5.length = 32) : spl (a0 :: a1 :: a2 :: a3 :: (t4.map u8 ++ (t5.map u8))) 0 (b0 :: b1 :: b2 :: b3 :: (s4.map u8 ++ (s5.map u8))) = b0 :: b1 :: b2 :: b3 :: (s4.map u8 ++ (s5.map u8)) := (spl_a (z := 68) (len_c (n := 67) (len_c (n := 66) (len_c (n := 65) (len_c (n := 64) (len_b (k := 32) (n := 32) h4 (len_e (k := 32) h5)))))) (len_c (n := 67) (len_c (n := 66) (len_c (n := 65) (len_c (n := 64) (len_b (k := 32) (n := 32) g4 (len_e (k := 32) g5)))))))
theorem z_call15 : callB Tryd.prog 15 = true := by kernel_rfl
theorem z_field35_5 : fieldB Tryd.prog 35 5 = some 36 := by kernel_rfl
theorem z_agg23 : aggB Tryd.prog 23 = some true := by kernel_rfl
theorem z_size23 : sizeB Tryd.prog 23 = some 32 := by kernel_rfl
theorem q_ld_c4b32b32_36_32 {a0 a1 a2 a3 : Value} {t4 t5 : List UInt8} (h4 : t4.length = 32) (h5 : t5.length = 32) : ((a0 :: a1 :: a2 :: a3 :: (t4.map u8 ++ (t5.map u8))).drop 36).take 32 = t5.map u8 := (ld_c (o := 35) (ld_c (o := 34) (ld_c (o := 33) (ld_c (o := 32) (ld_b (k := 32) (o := 0) h4 rfl (ld_a (len_e (k := 32) h5)))))))
theorem q_len_b32 {t0 : List UInt8} (h0 : t0.length = 32) : (t0.map u8).length = 32 := (len_e (k := 32) h0)

set_option maxRecDepth 100000 in
set_option maxHeartbeats 2000000 in
theorem awake5 {w : World} (hG : Glob 0 Sha.K w) : Calls Tryd.prog 14 #[] w (Gives (.bool true) [] w) := by
  obtain ⟨sb, hsb⟩ : ∃ x, x = Note.signBid Note.b0 := ⟨_, rfl⟩
  obtain ⟨lk, hlk⟩ : ∃ x, x = Note.link Note.Z 0 1 5 [97] := ⟨_, rfl⟩
  have hs2 : sb.2 = 0 := by rw [hsb]; exact Note.aw_sign
  have hsl : sb.1.tag.length = 32 := by rw [hsb]; exact Note.sb_len
  have hsw : (Note.writeBid sb.1).2 = 0 := by rw [hsb]; exact Note.aw_write
  have hsr : Note.readBid (Note.writeBid sb.1).1 = (sb.1, 0) := by rw [hsb]; exact Note.aw_read
  have hsc : Note.checkBid sb.1 = 0 := by rw [hsb]; exact Note.aw_check
  have wfs : Note.Bid.Wf sb.1 := by rw [hsb]; exact Note.bid_wf Note.sb_ok Note.sb_len
  have hl2 : lk.2 = 0 := by rw [hlk, Note.aw_link]
  have hlp : lk.1.prev.length = 32 := by rw [hlk]; exact Note.linkF_prev _ rfl
  have hlh : lk.1.hash.length = 32 := by rw [hlk]; exact Note.linkF_hash _ _ _ _ _
  have hln : lk.1.hash ≠ List.replicate 32 0 := by rw [hlk]; exact Note.aw_hash
  have hrl : (Note.readBid (Note.writeBid sb.1).1).1.tag.length = 32 := Note.readBid_len
  have hsg : ∀ {w : World}, Glob 0 Sha.K w → Calls Tryd.prog 12 #[.agg (Note.Bid.cells Note.b0).toArray] w (Gives (.tuple #[.agg (Note.Bid.cells sb.1).toArray, .int .i64 sb.2]) [] w) := fun hG => by rw [hsb]; exact nsign Note.b0 (Note.bid_wf Note.b0_ok rfl) hG
  have hlg : ∀ {w : World}, Glob 0 Sha.K w → Calls Tryd.prog 19 #[.agg (Note.Z.map u8).toArray, .int .i64 0, .int .i64 1, .int .i64 5, str [97]] w (Gives (.tuple #[.agg (Note.Receipt.cells lk.1).toArray, .int .i64 lk.2]) [] w) := fun hG => by rw [hlk]; exact nlinkF Note.Z rfl 0 1 5 (by omega) (by omega) (by omega) [97] (by simp) hG
  clear hsb hlk
  have lz32 : (List.replicate 32 (0 : UInt8)).length = 32 := List.length_replicate
  refine enterL (args := []) Tryd.func14 rfl rfl (l := []) (Sep.refl _) ?_
  intro a0 H0
  refine wp_seq ?_
  refine reg ?_
  refine plain (y_assign rfl rfl) rfl rfl rfl H0 ?_
  clear H0; intro a1 H1
  refine fin ?_
  refine then_n ?_
  refine wp_seq ?_
  refine reg ?_
  refine plain (y_build rfl z_zeroN25 z_places25 rfl (lay_1 (off := 0) (n := 36) rfl (q_len_c4b32 (by assumption)) (by decide) q_spl_c4b32_0_c1 (lay_1 (off := 1) (n := 36) rfl (q_len_c4b32 (by assumption)) (by decide) q_spl_c4b32_1_c1 (lay_1 (off := 2) (n := 36) rfl (q_len_c4b32 (by assumption)) (by decide) q_spl_c4b32_2_c1 lay_n (by rfl)) (by rfl)) (by rfl))) rfl rfl rfl H1 ?_
  clear H1; intro a2 H2
  refine st_callg rfl z_call12 rfl rfl rfl rfl H2 (hsg (hG.frm H2.sep.frm (by simp))) ?_
  clear H2; intro a3 wx3 H3
  refine plain (y_move rfl rfl) rfl rfl rfl H3 ?_
  clear H3; intro a4 H4
  refine plain (y_extract rfl rfl rfl) rfl rfl rfl H4 ?_
  clear H4; intro a5 H5
  refine plain (y_extract rfl rfl rfl) rfl rfl rfl H5 ?_
  clear H5; intro a6 H6
  refine st_alloc rfl z_zeroN25 rfl rfl rfl H6 ?_
  clear H6; intro b7 a7 wx7 H7
  refine st_storeN rfl z_size25 rfl rfl (agg_cells _) (by repeat (first | exact Uh | apply Ut)) (q_one_c4b32 rfl rfl rfl rfl) (q_len_c4b32 (by assumption)) (q_len_c4b32 (by assumption)) (q_spl_c4b32_0_c4b32 (by assumption) (by assumption)) (by decide) rfl rfl H7 ?_
  clear H7; intro wx8 H8
  refine plain (y_assign rfl rfl) rfl rfl rfl H8 ?_
  clear H8; intro a9 H9
  refine fin ?_
  refine then_n ?_
  refine wp_seq ?_
  refine reg ?_
  refine plain (y_loadAB rfl z_agg25 z_size25 rfl (by repeat (first | exact Mh | apply Mt)) (q_ld_c4b32_0_36 (by assumption)) (q_len_c4b32 (by assumption))) rfl rfl rfl H9 ?_
  clear H9; intro a10 H10
  refine st_callg rfl z_call10 rfl rfl rfl rfl H10 (nwbid sb.1 wfs _) ?_
  clear H10; intro a11 wx11 H11
  refine plain (y_move rfl rfl) rfl rfl rfl H11 ?_
  clear H11; intro a12 H12
  refine plain (y_extract rfl rfl rfl) rfl rfl rfl H12 ?_
  clear H12; intro a13 H13
  refine plain (y_extract rfl rfl rfl) rfl rfl rfl H13 ?_
  clear H13; intro a14 H14
  refine plain (y_assign rfl rfl) rfl rfl rfl H14 ?_
  clear H14; intro a15 H15
  refine plain (y_assign rfl rfl) rfl rfl rfl H15 ?_
  clear H15; intro a16 H16
  refine fin ?_
  refine then_n ?_
  refine wp_seq ?_
  refine reg ?_
  refine plain (y_move rfl rfl) rfl rfl rfl H16 ?_
  clear H16; intro a17 H17
  refine st_callg rfl z_call26 rfl rfl rfl rfl H17 (nreadbid (Note.writeBid sb.1).1 (by have := Note.wbid_len (b := sb.1); omega)) ?_
  clear H17; intro a18 wx18 H18
  refine plain (y_move rfl rfl) rfl rfl rfl H18 ?_
  clear H18; intro a19 H19
  refine plain (y_extract rfl rfl rfl) rfl rfl rfl H19 ?_
  clear H19; intro a20 H20
  refine plain (y_extract rfl rfl rfl) rfl rfl rfl H20 ?_
  clear H20; intro a21 H21
  refine st_alloc rfl z_zeroN25 rfl rfl rfl H21 ?_
  clear H21; intro b22 a22 wx22 H22
  refine st_storeN rfl z_size25 rfl rfl (agg_cells _) (by repeat (first | exact Uh | apply Ut)) (q_one_c4b32 rfl rfl rfl rfl) (q_len_c4b32 (by assumption)) (q_len_c4b32 (by assumption)) (q_spl_c4b32_0_c4b32 (by assumption) (by assumption)) (by decide) rfl rfl H22 ?_
  clear H22; intro wx23 H23
  refine plain (y_assign rfl rfl) rfl rfl rfl H23 ?_
  clear H23; intro a24 H24
  refine fin ?_
  refine then_n ?_
  refine wp_seq ?_
  refine reg ?_
  refine plain (y_buildA rfl z_zeroN23 Tryd.underlying23 z_size5 rfl lay_n) rfl rfl rfl H24 ?_
  clear H24; intro a25 H25
  refine st_callg rfl z_call19 rfl rfl rfl rfl H25 (hlg (hG.frm H25.sep.frm (by simp))) ?_
  clear H25; intro a26 wx26 H26
  refine plain (y_move rfl rfl) rfl rfl rfl H26 ?_
  clear H26; intro a27 H27
  refine plain (y_extract rfl rfl rfl) rfl rfl rfl H27 ?_
  clear H27; intro a28 H28
  refine plain (y_extract rfl rfl rfl) rfl rfl rfl H28 ?_
  clear H28; intro a29 H29
  refine st_alloc rfl z_zeroN35 rfl rfl rfl H29 ?_
  clear H29; intro b30 a30 wx30 H30
  refine st_storeN rfl z_size35 rfl rfl (agg_cells _) (by repeat (first | exact Uh | apply Ut)) (q_one_c4b32b32 rfl rfl rfl rfl) (q_len_c4b32b32 (by assumption) (by assumption)) (q_len_c4b32b32 (by assumption) (by assumption)) (q_spl_c4b32b32_0_c4b32b32 (by assumption) (by assumption) (by assumption) (by assumption)) (by decide) rfl rfl H30 ?_
  clear H30; intro wx31 H31
  refine plain (y_assign rfl rfl) rfl rfl rfl H31 ?_
  clear H31; intro a32 H32
  refine fin ?_
  refine then_n ?_
  refine wp_seq ?_
  refine reg ?_
  refine plain (y_move rfl rfl) rfl rfl rfl H32 ?_
  clear H32; intro a33 H33
  refine plain (y_eql rfl rfl rfl) rfl rfl rfl H33 ?_
  clear H33; intro a34 H34
  refine plain (y_move rfl rfl) rfl rfl rfl H34 ?_
  clear H34; intro a35 H35
  have H37 := H35.know (d := 31) (v := .bool true) rfl (congrArg Value.bool (decide_eq_true (hs2)))
  clear H35
  refine plain (y_move rfl rfl) rfl rfl rfl H37 ?_
  clear H37; intro a38 H38
  refine plain (y_eql rfl rfl rfl) rfl rfl rfl H38 ?_
  clear H38; intro a39 H39
  refine plain (y_pick_t rfl rfl rfl) rfl rfl rfl H39 ?_
  clear H39; intro a40 H40
  refine plain (y_move rfl rfl) rfl rfl rfl H40 ?_
  clear H40; intro a41 H41
  have H43 := H41.know (d := 35) (v := .bool true) rfl (congrArg Value.bool (decide_eq_true (hsw)))
  clear H41
  refine plain (y_move rfl rfl) rfl rfl rfl H43 ?_
  clear H43; intro a44 H44
  refine plain (y_eql rfl rfl rfl) rfl rfl rfl H44 ?_
  clear H44; intro a45 H45
  refine plain (y_pick_t rfl rfl rfl) rfl rfl rfl H45 ?_
  clear H45; intro a46 H46
  refine plain (y_move rfl rfl) rfl rfl rfl H46 ?_
  clear H46; intro a47 H47
  have H49 := H47.know (d := 39) (v := .bool true) rfl (congrArg Value.bool (decide_eq_true (by rw [hsr])))
  clear H47
  refine plain (y_loadAB rfl z_agg25 z_size25 rfl (by repeat (first | exact Mh | apply Mt)) (q_ld_c4b32_0_36 (by assumption)) (q_len_c4b32 (by assumption))) rfl rfl rfl H49 ?_
  clear H49; intro a50 H50
  refine plain (y_loadAB rfl z_agg25 z_size25 rfl (by repeat (first | exact Mh | apply Mt)) (q_ld_c4b32_0_36 (by assumption)) (q_len_c4b32 (by assumption))) rfl rfl rfl H50 ?_
  clear H50; intro a51 H51
  refine plain (y_teql rfl (by kernel_rfl) rfl rfl (eqr_Bid sb.1 (Note.readBid (Note.writeBid sb.1).1).1 hsl hrl)) rfl rfl rfl H51 ?_
  clear H51; intro a52 H52
  refine plain (y_pick_t rfl rfl rfl) rfl rfl rfl H52 ?_
  clear H52; intro a53 H53
  refine plain (y_move rfl rfl) rfl rfl rfl H53 ?_
  clear H53; intro a54 H54
  have H56 := H54.know (d := 44) (v := .bool true) rfl (congrArg Value.bool (decide_eq_true (by rw [hsr])))
  clear H54
  refine plain (y_loadAB rfl z_agg25 z_size25 rfl (by repeat (first | exact Mh | apply Mt)) (q_ld_c4b32_0_36 (by assumption)) (q_len_c4b32 (by assumption))) rfl rfl rfl H56 ?_
  clear H56; intro a57 H57
  refine st_callg rfl z_call15 rfl rfl rfl rfl H57 (ncheck sb.1 wfs (hG.frm H57.sep.frm (by simp))) ?_
  clear H57; intro a58 wx58 H58
  refine plain (y_eql rfl rfl rfl) rfl rfl rfl H58 ?_
  clear H58; intro a59 H59
  refine plain (y_pick_t rfl rfl rfl) rfl rfl rfl H59 ?_
  clear H59; intro a60 H60
  refine plain (y_move rfl rfl) rfl rfl rfl H60 ?_
  clear H60; intro a61 H61
  have H63 := H61.know (d := 49) (v := .bool true) rfl (congrArg Value.bool (decide_eq_true (hsc)))
  clear H61
  refine plain (y_move rfl rfl) rfl rfl rfl H63 ?_
  clear H63; intro a64 H64
  refine plain (y_eql rfl rfl rfl) rfl rfl rfl H64 ?_
  clear H64; intro a65 H65
  refine plain (y_pick_t rfl rfl rfl) rfl rfl rfl H65 ?_
  clear H65; intro a66 H66
  refine plain (y_move rfl rfl) rfl rfl rfl H66 ?_
  clear H66; intro a67 H67
  have H69 := H67.know (d := 53) (v := .bool true) rfl (congrArg Value.bool (decide_eq_true (hl2)))
  clear H67
  refine plain (y_fieldB rfl z_field35_5 rfl (by first | (simp only [Nat.zero_add, Nat.add_zero, Nat.reduceAdd]; rfl) | rfl)) rfl rfl rfl H69 ?_
  clear H69; intro a70 H70
  refine plain (y_loadAB rfl z_agg23 z_size23 rfl (by repeat (first | exact Mh | apply Mt)) (q_ld_c4b32b32_36_32 (by assumption) (by assumption)) (q_len_b32 (by assumption))) rfl rfl rfl H70 ?_
  clear H70; intro a71 H71
  refine plain (y_buildA rfl z_zeroN23 Tryd.underlying23 z_size5 rfl lay_n) rfl rfl rfl H71 ?_
  clear H71; intro a72 H72
  refine plain (y_hneq rfl Tryd.eqGuardType23 Tryd.underlying23 Tryd.underlying5 z_size5 rfl rfl (by assumption) (by assumption)) rfl rfl rfl H72 ?_
  clear H72; intro a73 H73
  refine plain (y_pick_t rfl rfl rfl) rfl rfl rfl H73 ?_
  clear H73; intro a74 H74
  refine plain (y_assign rfl rfl) rfl rfl rfl H74 ?_
  clear H74; intro a75 H75
  refine fin ?_
  refine then_n ?_
  refine wp_ret ?_
  -- return 1
  refine ret1 rfl H75 rfl ?_
  exact ⟨_, [], rfl, ⟨congrArg Value.bool (decide_eq_true hln), rfl⟩, H75.sep.sub (List.nil_sublist _)⟩

end Go.Proofs.YtnnhnnhdoipbaaaDoor.N_Aw

set_option linter.unusedVariables false
set_option linter.unusedSimpArgs false
namespace Go.Proofs.YtnnhnnhdoipbaaaDoor.N_L3
open Go.Sx Go.RowKit Go.Proofs.YtnnhnnhdoipbaaaDoor.N_Block Go.Proofs.YtnnhnnhdoipbaaaDoor.N_Sum Go.Proofs.YtnnhnnhdoipbaaaDoor.N_Ref Go.Proofs.YtnnhnnhdoipbaaaDoor.N_RSum Go.Proofs.YtnnhnnhdoipbaaaDoor.N_Leaf Go.Proofs.YtnnhnnhdoipbaaaDoor.N_Num Go.Proofs.YtnnhnnhdoipbaaaDoor.N_Key Go.Proofs.YtnnhnnhdoipbaaaDoor.N_Ref Go.Proofs.YtnnhnnhdoipbaaaDoor.N_RSum Go.Proofs.YtnnhnnhdoipbaaaDoor.N_Tag Go.Proofs.YtnnhnnhdoipbaaaDoor.N_Read Go.Proofs.YtnnhnnhdoipbaaaDoor.N_Lay Go.Proofs.YtnnhnnhdoipbaaaDoor.N_Eq Go.Proofs.YtnnhnnhdoipbaaaDoor.N_Ref0 Go.Proofs.YtnnhnnhdoipbaaaDoor.N_Rec Go.Proofs.YtnnhnnhdoipbaaaDoor.N_RRec Go.Proofs.YtnnhnnhdoipbaaaDoor.N_Fields Go.Proofs.YtnnhnnhdoipbaaaDoor.N_RBid Go.Proofs.YtnnhnnhdoipbaaaDoor.N_Sign Go.Proofs.YtnnhnnhdoipbaaaDoor.N_Item Go.Proofs.YtnnhnnhdoipbaaaDoor.N_WBatch Go.Proofs.YtnnhnnhdoipbaaaDoor.N_RBatch Go.Proofs.YtnnhnnhdoipbaaaDoor.N_RefB Go.Proofs.YtnnhnnhdoipbaaaDoor.N_RefI Go.Proofs.YtnnhnnhdoipbaaaDoor.N_RefR Go.Proofs.YtnnhnnhdoipbaaaDoor.N_RWBatch Go.Proofs.YtnnhnnhdoipbaaaDoor.N_RRBatch Go.Proofs.YtnnhnnhdoipbaaaDoor.N_Aw

theorem z_call14 : callB Tryd.prog 14 = true := by kernel_rfl
theorem z_zeroN23 : zeroL Tryd.prog 23 = some ((List.replicate 32 (0 : UInt8)).map u8) := by kernel_rfl
theorem z_size5 : sizeB Tryd.prog 5 = some 1 := by kernel_rfl
theorem z_size23 : sizeB Tryd.prog 23 = some 32 := by kernel_rfl
theorem q_one_b32 {t0 : List UInt8} : (t0.map u8).all (·.oneCell') = true := (one_u8 _)
theorem q_len_b32 {t0 : List UInt8} (h0 : t0.length = 32) : (t0.map u8).length = 32 := (len_e (k := 32) h0)
theorem q_spl_b32_0_b32 {t0 : List UInt8} {s0 : List UInt8} (h0 : t0.length = 32) (g0 : s0.length = 32) : spl (t0.map u8) 0 (s0.map u8) = s0.map u8 := (spl_a (z := 32) (len_e (k := 32) h0) (len_e (k := 32) g0))
theorem z_agg23 : aggB Tryd.prog 23 = some true := by kernel_rfl
theorem q_ld_b32_0_32 {t0 : List UInt8} (h0 : t0.length = 32) : ((t0.map u8).drop 0).take 32 = t0.map u8 := (ld_a (len_e (k := 32) h0))
theorem z_size9 : sizeB Tryd.prog 9 = some 1 := by kernel_rfl
theorem z_agg9 : aggB Tryd.prog 9 = some false := by kernel_rfl
theorem z_call19 : callB Tryd.prog 19 = true := by kernel_rfl
theorem z_zeroN35 : zeroL Tryd.prog 35 = some ((.int .i64 0 :: (.int .i64 0 :: (.int .i64 0 :: (.string ⟨#[]⟩ :: ((List.replicate 32 (0 : UInt8)).map u8 ++ (List.replicate 32 (0 : UInt8)).map u8)))))) := by kernel_rfl
theorem z_size35 : sizeB Tryd.prog 35 = some 68 := by kernel_rfl
theorem q_one_c4b32b32 {a0 a1 a2 a3 : Value} {t4 t5 : List UInt8} (o0 : a0.oneCell' = true) (o1 : a1.oneCell' = true) (o2 : a2.oneCell' = true) (o3 : a3.oneCell' = true) : (a0 :: a1 :: a2 :: a3 :: (t4.map u8 ++ (t5.map u8))).all (·.oneCell') = true := (one_c o0 (one_c o1 (one_c o2 (one_c o3 (one_b (one_u8 _))))))
theorem q_len_c4b32b32 {a0 a1 a2 a3 : Value} {t4 t5 : List UInt8} (h4 : t4.length = 32) (h5 : t5.length = 32) : (a0 :: a1 :: a2 :: a3 :: (t4.map u8 ++ (t5.map u8))).length = 68 := (len_c (n := 67) (len_c (n := 66) (len_c (n := 65) (len_c (n := 64) (len_b (k := 32) (n := 32) h4 (len_e (k := 32) h5))))))
theorem q_spl_c4b32b32_0_c4b32b32 {a0 a1 a2 a3 : Value} {t4 t5 : List UInt8} {b0 b1 b2 b3 : Value} {s4 s5 : List UInt8} (h4 : t4.length = 32) (h5 : t5.length = 32) (g4 : s4.length = 32) (g5 : s5.length = 32) : spl (a0 :: a1 :: a2 :: a3 :: (t4.map u8 ++ (t5.map u8))) 0 (b0 :: b1 :: b2 :: b3 :: (s4.map u8 ++ (s5.map u8))) = b0 :: b1 :: b2 :: b3 :: (s4.map u8 ++ (s5.map u8)) := (spl_a (z := 68) (len_c (n := 67) (len_c (n := 66) (len_c (n := 65) (len_c (n := 64) (len_b (k := 32) (n := 32) h4 (len_e (k := 32) h5)))))) (len_c (n := 67) (len_c (n := 66) (len_c (n := 65) (len_c (n := 64) (len_b (k := 32) (n := 32) g4 (len_e (k := 32) g5)))))))
theorem z_call20 : callB Tryd.prog 20 = true := by kernel_rfl
theorem z_agg35 : aggB Tryd.prog 35 = some true := by kernel_rfl
theorem q_ld_c4b32b32_0_68 {a0 a1 a2 a3 : Value} {t4 t5 : List UInt8} (h4 : t4.length = 32) (h5 : t5.length = 32) : ((a0 :: a1 :: a2 :: a3 :: (t4.map u8 ++ (t5.map u8))).drop 0).take 68 = a0 :: a1 :: a2 :: a3 :: (t4.map u8 ++ (t5.map u8)) := (ld_a (len_c (n := 67) (len_c (n := 66) (len_c (n := 65) (len_c (n := 64) (len_b (k := 32) (n := 32) h4 (len_e (k := 32) h5)))))))
theorem z_places35 : placesB Tryd.prog 35 = some [(0, 1), (1, 1), (2, 1), (3, 1), (4, 32), (36, 32)] := by kernel_rfl
theorem z_call17 : callB Tryd.prog 17 = true := by kernel_rfl
theorem z_call25 : callB Tryd.prog 25 = true := by kernel_rfl
theorem z_field35_4 : fieldB Tryd.prog 35 4 = some 4 := by kernel_rfl
theorem q_ld_c4b32b32_4_32 {a0 a1 a2 a3 : Value} {t4 t5 : List UInt8} (h4 : t4.length = 32) : ((a0 :: a1 :: a2 :: a3 :: (t4.map u8 ++ (t5.map u8))).drop 4).take 32 = t4.map u8 := (ld_c (o := 3) (ld_c (o := 2) (ld_c (o := 1) (ld_c (o := 0) (ld_h h4)))))
theorem z_field35_5 : fieldB Tryd.prog 35 5 = some 36 := by kernel_rfl
theorem q_ld_c4b32b32_36_32 {a0 a1 a2 a3 : Value} {t4 t5 : List UInt8} (h4 : t4.length = 32) (h5 : t5.length = 32) : ((a0 :: a1 :: a2 :: a3 :: (t4.map u8 ++ (t5.map u8))).drop 36).take 32 = t5.map u8 := (ld_c (o := 35) (ld_c (o := 34) (ld_c (o := 33) (ld_c (o := 32) (ld_b (k := 32) (o := 0) h4 rfl (ld_a (len_e (k := 32) h5)))))))

set_option maxRecDepth 100000 in
set_option maxHeartbeats 4000000 in
theorem notesChains (l : List (List UInt8)) (A : Option Addr) (c : Nat) (hcl : l.length ≤ c) (hb : ∀ x ∈ l, x.length ≤ 140737488351232) (hl : l.length ≤ 9223372036854775807) (time : Int) (htm : Note.I64 time) {w : World} (hR : Rd w A (l.map str)) (hG : Glob 0 Sha.K w) : Calls Tryd.prog 7 #[.slice A l.length c, .int .i64 time] w (Gives (.bool true) [] w) := by
  have lz32 : (List.replicate 32 (0 : UInt8)).length = 32 := List.length_replicate
  refine enterL (args := [.slice A l.length c, .int .i64 time]) Tryd.func7 rfl rfl (l := []) (Sep.refl _) ?_
  intro a0 H0
  refine wp_seq ?_
  refine reg ?_
  refine plain (y_assign rfl rfl) rfl rfl rfl H0 ?_
  clear H0; intro a1 H1
  refine fin ?_
  refine then_n ?_
  refine wp_seq ?_
  refine wp_seq ?_
  refine reg ?_
  refine st_callg rfl z_call14 rfl rfl rfl rfl H1 (awake5 (hG.frm H1.sep.frm (by simp))) ?_
  clear H1; intro a2 wx2 H2
  refine plain (y_not rfl rfl) rfl rfl rfl H2 ?_
  clear H2; intro a3 H3
  refine fin ?_
  refine then_n ?_
  refine cnd_f H3 rfl ?_
  refine wp_skip ?_
  refine then_n ?_
  refine wp_seq ?_
  refine reg ?_
  refine plain (y_buildA rfl z_zeroN23 Tryd.underlying23 z_size5 rfl lay_n) rfl rfl rfl H3 ?_
  clear H3; intro a5 H5
  refine plain (y_buildA rfl z_zeroN23 Tryd.underlying23 z_size5 rfl lay_n) rfl rfl rfl H5 ?_
  clear H5; intro a6 H6
  refine st_alloc rfl z_zeroN23 rfl rfl rfl H6 ?_
  clear H6; intro b7 a7 wx7 H7
  refine st_alloc rfl z_zeroN23 rfl rfl rfl H7 ?_
  clear H7; intro b8 a8 wx8 H8
  refine st_storeN rfl z_size23 rfl rfl (agg_cells _) (by repeat (first | exact Uh | apply Ut)) q_one_b32 (q_len_b32 (by first | assumption | exact Note.linkF_prev _ ha | exact Note.linkF_hash _ _ _ _ _ | exact Note.readReceipt_len.1 | exact Note.readReceipt_len.2)) (q_len_b32 (by first | assumption | exact Note.linkF_prev _ ha | exact Note.linkF_hash _ _ _ _ _ | exact Note.readReceipt_len.1 | exact Note.readReceipt_len.2)) (q_spl_b32_0_b32 (by first | assumption | exact Note.linkF_prev _ ha | exact Note.linkF_hash _ _ _ _ _ | exact Note.readReceipt_len.1 | exact Note.readReceipt_len.2) (by first | assumption | exact Note.linkF_prev _ ha | exact Note.linkF_hash _ _ _ _ _ | exact Note.readReceipt_len.1 | exact Note.readReceipt_len.2)) (by decide) rfl rfl H8 ?_
  clear H8; intro wx9 H9
  refine st_storeN rfl z_size23 rfl rfl (agg_cells _) (by repeat (first | exact Uh | apply Ut)) q_one_b32 (q_len_b32 (by first | assumption | exact Note.linkF_prev _ ha | exact Note.linkF_hash _ _ _ _ _ | exact Note.readReceipt_len.1 | exact Note.readReceipt_len.2)) (q_len_b32 (by first | assumption | exact Note.linkF_prev _ ha | exact Note.linkF_hash _ _ _ _ _ | exact Note.readReceipt_len.1 | exact Note.readReceipt_len.2)) (q_spl_b32_0_b32 (by first | assumption | exact Note.linkF_prev _ ha | exact Note.linkF_hash _ _ _ _ _ | exact Note.readReceipt_len.1 | exact Note.readReceipt_len.2) (by first | assumption | exact Note.linkF_prev _ ha | exact Note.linkF_hash _ _ _ _ _ | exact Note.readReceipt_len.1 | exact Note.readReceipt_len.2)) (by decide) rfl rfl H9 ?_
  clear H9; intro wx10 H10
  refine fin ?_
  refine then_n ?_
  refine wp_seq ?_
  refine wp_seq ?_
  refine reg ?_
  refine plain (y_assign rfl rfl) rfl rfl rfl H10 ?_
  clear H10; intro a11 H11
  refine fin ?_
  refine then_n ?_
  refine wp_block ?_
  refine loop (ι := Nat × List UInt8) (fun x => [(0, .slice A l.length c), (1, .int .i64 time), (5, .pointer (some ⟨b7, 0, none⟩)), (6, .pointer (some ⟨b8, 0, none⟩)), (7, .int .i64 (x.1 : Int))]) (fun x => [It.blk b8 23 (x.2.map u8), It.blk b7 23 (x.2.map u8)]) (fun x => x.1 ≤ 40 ∧ x.2.length = 32) (fun x => 40 - x.1) ((0, Note.Z)) ⟨Nat.zero_le _, rfl⟩ (H11.weak ⟨rfl, rfl, rfl, rfl, rfl, trivial⟩ rfl) ?_
  clear H11; intro x a12 wx12 hok12 H12
  obtain ⟨i, a⟩ := x
  dsimp only at hok12 H12
  obtain ⟨hi40, ha⟩ := hok12
  refine wp_seq ?_
  refine wp_seq ?_
  refine reg ?_
  refine plain (y_move rfl rfl) rfl rfl rfl H12 ?_
  clear H12; intro a13 H13
  refine plain (y_move rfl rfl) rfl rfl rfl H13 ?_
  clear H13; intro a14 H14
  refine plain (y_len rfl Tryd.underlying49 rfl) rfl rfl rfl H14 ?_
  clear H14; intro a15 H15
  refine plain (y_lss rfl rfl rfl) rfl rfl rfl H15 ?_
  clear H15; intro a16 H16
  refine plain (y_move rfl rfl) rfl rfl rfl H16 ?_
  clear H16; intro a17 H17
  refine Sx.part (d := 24) H17 rfl (fun hg18 => ?_) (fun hg18 => ?_)
  · first
    | fail
    | skip
      clear H17; intro H19
      try simp only [decide_eq_true_eq, decide_eq_false_iff_not, Bool.not_eq_true', Bool.not_eq_false', Bool.and_eq_true, Bool.not_eq_true, Bool.not_eq_false] at hg18
      refine plain (y_move rfl rfl) rfl rfl rfl H19 ?_
      clear H19; intro a20 H20
      refine plain (y_lss rfl rfl rfl) rfl rfl rfl H20 ?_
      clear H20; intro a21 H21
      refine plain (y_pick_t rfl rfl rfl) rfl rfl rfl H21 ?_
      clear H21; intro a22 H22
      refine fin ?_
      refine then_n ?_
      refine cnd H22 rfl (fun hc23 => ?_) (fun hc23 => ?_) -- cond 2
      · skip
        try simp only [decide_eq_true_eq, decide_eq_false_iff_not, Bool.not_eq_true', Bool.not_eq_false', Bool.and_eq_true, Bool.not_eq_true, Bool.not_eq_false] at hc23
        refine wp_skip ?_
        refine then_n ?_
        refine wp_seq ?_
        refine wp_block ?_
        refine wp_seq ?_
        refine wp_cut (fun aC wC => ∃ bC : Nat, St Tryd.f7.ntmps [] w ([(0, .slice A l.length c), (1, .int .i64 time), (5, .pointer (some ⟨b7, 0, none⟩)), (6, .pointer (some ⟨b8, 0, none⟩)), (7, .int .i64 (i : Int)), (8, .pointer (some ⟨bC, 0, none⟩)), (9, .int .i64 (Note.link a (i : Int) 1 time (l.getD i [])).2)]) ([It.blk bC 35 (Note.Receipt.cells (Note.link a (i : Int) 1 time (l.getD i [])).1), It.blk b8 23 (a.map u8), It.blk b7 23 (a.map u8)]) aC wC) ?_ ?_
        · skip
          refine hreg _ (fun _ h => h) (by kernel_rfl) H22 ?_
          clear H22; intro wx24 H24
          refine htake 0 rfl (by kernel_rfl) (y_loadAB rfl z_agg23 z_size23 rfl (by repeat (first | exact Mh | apply Mt)) (q_ld_b32_0_32 (by first | assumption | exact Note.linkF_prev _ ha | exact Note.linkF_hash _ _ _ _ _ | exact Note.readReceipt_len.1 | exact Note.readReceipt_len.2)) (q_len_b32 (by first | assumption | exact Note.linkF_prev _ ha | exact Note.linkF_hash _ _ _ _ _ | exact Note.readReceipt_len.1 | exact Note.readReceipt_len.2))) rfl rfl rfl (fun _ h => (h.sub (by first | exact S0 | exact S1 | repeat (first | exact S1 | exact S0 | apply S2 | apply S3)))) H24 ?_
          clear H24; intro a25 H25
          refine htake 1 rfl (by kernel_rfl) (y_move rfl rfl) rfl rfl rfl (fun _ h => (h.sub (by first | exact S0 | exact S1 | repeat (first | exact S1 | exact S0 | apply S2 | apply S3)))) H25 ?_
          clear H25; intro a26 H26
          refine htake 2 rfl (by kernel_rfl) (y_move rfl rfl) rfl rfl rfl (fun _ h => (h.sub (by first | exact S0 | exact S1 | repeat (first | exact S1 | exact S0 | apply S2 | apply S3)))) H26 ?_
          clear H26; intro a27 H27
          refine htake 3 rfl (by kernel_rfl) (y_move rfl rfl) rfl rfl rfl (fun _ h => (h.sub (by first | exact S0 | exact S1 | repeat (first | exact S1 | exact S0 | apply S2 | apply S3)))) H27 ?_
          clear H27; intro a28 H28
          refine htake 4 rfl (by kernel_rfl) (y_move rfl rfl) rfl rfl rfl (fun _ h => (h.sub (by first | exact S0 | exact S1 | repeat (first | exact S1 | exact S0 | apply S2 | apply S3)))) H28 ?_
          clear H28; intro a29 H29
          refine htake 5 rfl (by kernel_rfl) (y_ixR rfl Tryd.underlying49 z_size9 rfl rfl (by omega) (by omega) (rd_old (by assumption) (by simp)) (by rw [List.length_map]; omega)) rfl rfl rfl (fun _ h => (h.sub (by first | exact S0 | exact S1 | repeat (first | exact S1 | exact S0 | apply S2 | apply S3)))) H29 ?_
          clear H29; intro a30 H30
          refine htake 6 rfl (by kernel_rfl) (y_loadR rfl z_agg9 rfl (rd_old (by assumption) (by simp)) (by simp only [Int.toNat_natCast, Nat.mul_one, Nat.add_zero]; exact map_get _ _ _ [] (by omega))) rfl rfl rfl (fun _ h => (h.sub (by first | exact S0 | exact S1 | repeat (first | exact S1 | exact S0 | apply S2 | apply S3)))) H30 ?_
          clear H30; intro a31 H31
          refine hgo2 7 11 rfl rfl (by kernel_rfl) ?_ ?_
          · skip
            refine st_callg rfl z_call19 rfl rfl rfl rfl H31 (nlinkF a ha (i : Int) 1 time (by omega) (by omega) htm (l.getD i []) (by have := hb (l.getD i []) (by rw [Oct.getD_eq [] (by omega)]; exact List.getElem_mem _); omega) (hG.frm H31.sep.frm (by simp))) ?_
            clear H31; intro a32 wx32 H32
            refine hfin (H32.sep.sub (by first | exact S0 | exact S1 | repeat (first | exact S1 | exact S0 | apply S2 | apply S3))) ?_
            refine htake 8 rfl (by kernel_rfl) (y_move rfl rfl) rfl rfl rfl (fun _ h => (h.sub (by first | exact S0 | exact S1 | repeat (first | exact S1 | exact S0 | apply S2 | apply S3)))) H32 ?_
            clear H32; intro a33 H33
            refine htake 9 rfl (by kernel_rfl) (y_extract rfl rfl rfl) rfl rfl rfl (fun _ h => (h.sub (by first | exact S0 | exact S1 | repeat (first | exact S1 | exact S0 | apply S2 | apply S3)))) H33 ?_
            clear H33; intro a34 H34
            refine htake 10 rfl (by kernel_rfl) (y_extract rfl rfl rfl) rfl rfl rfl (fun _ h => (h.sub (by first | exact S0 | exact S1 | repeat (first | exact S1 | exact S0 | apply S2 | apply S3)))) H34 ?_
            clear H34; intro a35 H35
            refine hgo 11 rfl (by kernel_rfl) ?_
            refine st_alloc rfl z_zeroN35 rfl rfl rfl H35 ?_
            clear H35; intro b36 a36 wx36 H36
            refine hfin (H36.sep.sub (by first | exact S0 | exact S1 | repeat (first | exact S1 | exact S0 | apply S2 | apply S3))) ?_
            refine hgo 12 rfl (by kernel_rfl) ?_
            refine st_storeN rfl z_size35 rfl rfl (agg_cells _) (by repeat (first | exact Uh | apply Ut)) (q_one_c4b32b32 rfl rfl rfl rfl) (q_len_c4b32b32 (by first | assumption | exact Note.linkF_prev _ ha | exact Note.linkF_hash _ _ _ _ _ | exact Note.readReceipt_len.1 | exact Note.readReceipt_len.2) (by first | assumption | exact Note.linkF_prev _ ha | exact Note.linkF_hash _ _ _ _ _ | exact Note.readReceipt_len.1 | exact Note.readReceipt_len.2)) (q_len_c4b32b32 (by first | assumption | exact Note.linkF_prev _ ha | exact Note.linkF_hash _ _ _ _ _ | exact Note.readReceipt_len.1 | exact Note.readReceipt_len.2) (by first | assumption | exact Note.linkF_prev _ ha | exact Note.linkF_hash _ _ _ _ _ | exact Note.readReceipt_len.1 | exact Note.readReceipt_len.2)) (q_spl_c4b32b32_0_c4b32b32 (by first | assumption | exact Note.linkF_prev _ ha | exact Note.linkF_hash _ _ _ _ _ | exact Note.readReceipt_len.1 | exact Note.readReceipt_len.2) (by first | assumption | exact Note.linkF_prev _ ha | exact Note.linkF_hash _ _ _ _ _ | exact Note.readReceipt_len.1 | exact Note.readReceipt_len.2) (by first | assumption | exact Note.linkF_prev _ ha | exact Note.linkF_hash _ _ _ _ _ | exact Note.readReceipt_len.1 | exact Note.readReceipt_len.2) (by first | assumption | exact Note.linkF_prev _ ha | exact Note.linkF_hash _ _ _ _ _ | exact Note.readReceipt_len.1 | exact Note.readReceipt_len.2)) (by decide) rfl rfl H36 ?_
            clear H36; intro wx37 H37
            refine hfin (H37.sep.sub (by first | exact S0 | exact S1 | repeat (first | exact S1 | exact S0 | apply S2 | apply S3))) ?_
            refine htake 13 rfl (by kernel_rfl) (y_assign rfl rfl) rfl rfl rfl (fun _ h => (h.sub (by first | exact S0 | exact S1 | repeat (first | exact S1 | exact S0 | apply S2 | apply S3)))) H37 ?_
            clear H37; intro a38 H38
            refine hdone (by kernel_rfl) ?_
            refine cut_n ?_
            exact ⟨_, (H38.drop (by first | exact S0 | exact S1 | repeat (first | exact S1 | exact S0 | apply S2 | apply S3))).weak ⟨rfl, rfl, rfl, rfl, rfl, rfl, rfl, trivial⟩ rfl⟩
          · skip
            refine st_alloc rfl z_zeroN35 rfl rfl rfl H31 ?_
            clear H31; intro b39 a39 wx39 H39
            refine hfin (H39.sep.sub (by first | exact S0 | exact S1 | repeat (first | exact S1 | exact S0 | apply S2 | apply S3))) ?_
            refine hgo 7 rfl (by kernel_rfl) ?_
            refine st_callg rfl z_call19 rfl rfl rfl rfl H39 (nlinkF a ha (i : Int) 1 time (by omega) (by omega) htm (l.getD i []) (by have := hb (l.getD i []) (by rw [Oct.getD_eq [] (by omega)]; exact List.getElem_mem _); omega) (hG.frm H39.sep.frm (by simp))) ?_
            clear H39; intro a40 wx40 H40
            refine hfin (H40.sep.sub (by first | exact S0 | exact S1 | repeat (first | exact S1 | exact S0 | apply S2 | apply S3))) ?_
            refine htake 8 rfl (by kernel_rfl) (y_move rfl rfl) rfl rfl rfl (fun _ h => (h.sub (by first | exact S0 | exact S1 | repeat (first | exact S1 | exact S0 | apply S2 | apply S3)))) H40 ?_
            clear H40; intro a41 H41
            refine htake 9 rfl (by kernel_rfl) (y_extract rfl rfl rfl) rfl rfl rfl (fun _ h => (h.sub (by first | exact S0 | exact S1 | repeat (first | exact S1 | exact S0 | apply S2 | apply S3)))) H41 ?_
            clear H41; intro a42 H42
            refine htake 10 rfl (by kernel_rfl) (y_extract rfl rfl rfl) rfl rfl rfl (fun _ h => (h.sub (by first | exact S0 | exact S1 | repeat (first | exact S1 | exact S0 | apply S2 | apply S3)))) H42 ?_
            clear H42; intro a43 H43
            refine hgo 12 rfl (by kernel_rfl) ?_
            refine st_storeN rfl z_size35 rfl rfl (agg_cells _) (by repeat (first | exact Uh | apply Ut)) (q_one_c4b32b32 rfl rfl rfl rfl) (q_len_c4b32b32 (by first | assumption | exact Note.linkF_prev _ ha | exact Note.linkF_hash _ _ _ _ _ | exact Note.readReceipt_len.1 | exact Note.readReceipt_len.2) (by first | assumption | exact Note.linkF_prev _ ha | exact Note.linkF_hash _ _ _ _ _ | exact Note.readReceipt_len.1 | exact Note.readReceipt_len.2)) (q_len_c4b32b32 (by first | assumption | exact Note.linkF_prev _ ha | exact Note.linkF_hash _ _ _ _ _ | exact Note.readReceipt_len.1 | exact Note.readReceipt_len.2) (by first | assumption | exact Note.linkF_prev _ ha | exact Note.linkF_hash _ _ _ _ _ | exact Note.readReceipt_len.1 | exact Note.readReceipt_len.2)) (q_spl_c4b32b32_0_c4b32b32 (by first | assumption | exact Note.linkF_prev _ ha | exact Note.linkF_hash _ _ _ _ _ | exact Note.readReceipt_len.1 | exact Note.readReceipt_len.2) (by first | assumption | exact Note.linkF_prev _ ha | exact Note.linkF_hash _ _ _ _ _ | exact Note.readReceipt_len.1 | exact Note.readReceipt_len.2) (by first | assumption | exact Note.linkF_prev _ ha | exact Note.linkF_hash _ _ _ _ _ | exact Note.readReceipt_len.1 | exact Note.readReceipt_len.2) (by first | assumption | exact Note.linkF_prev _ ha | exact Note.linkF_hash _ _ _ _ _ | exact Note.readReceipt_len.1 | exact Note.readReceipt_len.2)) (by decide) rfl rfl H43 ?_
            clear H43; intro wx44 H44
            refine hfin (H44.sep.sub (by first | exact S0 | exact S1 | repeat (first | exact S1 | exact S0 | apply S2 | apply S3))) ?_
            refine htake 13 rfl (by kernel_rfl) (y_assign rfl rfl) rfl rfl rfl (fun _ h => (h.sub (by first | exact S0 | exact S1 | repeat (first | exact S1 | exact S0 | apply S2 | apply S3)))) H44 ?_
            clear H44; intro a45 H45
            refine hdone (by kernel_rfl) ?_
            refine cut_n ?_
            exact ⟨_, (H45.drop (by first | exact S0 | exact S1 | repeat (first | exact S1 | exact S0 | apply S2 | apply S3))).weak ⟨rfl, rfl, rfl, rfl, rfl, rfl, rfl, trivial⟩ rfl⟩
        · clear H22; intro a46 wx46 hI46
          obtain ⟨bC, H46⟩ := hI46
          refine then_n ?_
          refine wp_seq ?_
          refine wp_cut (fun aC wC => ∃ bD : Nat, St Tryd.f7.ntmps [] w ([(0, .slice A l.length c), (1, .int .i64 time), (5, .pointer (some ⟨b7, 0, none⟩)), (6, .pointer (some ⟨b8, 0, none⟩)), (7, .int .i64 (i : Int)), (8, .pointer (some ⟨bC, 0, none⟩)), (9, .int .i64 (Note.link a (i : Int) 1 time (l.getD i [])).2), (10, .pointer (some ⟨bD, 0, none⟩)), (11, .int .i64 (Note.link a (i : Int) 1 time (l.getD i [])).2)]) ([It.blk bD 35 (Note.Receipt.cells (Note.link a (i : Int) 1 time (l.getD i [])).1), It.blk bC 35 (Note.Receipt.cells (Note.link a (i : Int) 1 time (l.getD i [])).1), It.blk b8 23 (a.map u8), It.blk b7 23 (a.map u8)]) aC wC) ?_ ?_
          · skip
            refine hreg _ (fun _ h => h) (by kernel_rfl) H46 ?_
            clear H46; intro wx47 H47
            refine htake 0 rfl (by kernel_rfl) (y_loadAB rfl z_agg23 z_size23 rfl (by repeat (first | exact Mh | apply Mt)) (q_ld_b32_0_32 (by first | assumption | exact Note.linkF_prev _ ha | exact Note.linkF_hash _ _ _ _ _ | exact Note.readReceipt_len.1 | exact Note.readReceipt_len.2)) (q_len_b32 (by first | assumption | exact Note.linkF_prev _ ha | exact Note.linkF_hash _ _ _ _ _ | exact Note.readReceipt_len.1 | exact Note.readReceipt_len.2))) rfl rfl rfl (fun _ h => (h.sub (by first | exact S0 | exact S1 | repeat (first | exact S1 | exact S0 | apply S2 | apply S3)))) H47 ?_
            clear H47; intro a48 H48
            refine htake 1 rfl (by kernel_rfl) (y_move rfl rfl) rfl rfl rfl (fun _ h => (h.sub (by first | exact S0 | exact S1 | repeat (first | exact S1 | exact S0 | apply S2 | apply S3)))) H48 ?_
            clear H48; intro a49 H49
            refine htake 2 rfl (by kernel_rfl) (y_move rfl rfl) rfl rfl rfl (fun _ h => (h.sub (by first | exact S0 | exact S1 | repeat (first | exact S1 | exact S0 | apply S2 | apply S3)))) H49 ?_
            clear H49; intro a50 H50
            refine htake 3 rfl (by kernel_rfl) (y_move rfl rfl) rfl rfl rfl (fun _ h => (h.sub (by first | exact S0 | exact S1 | repeat (first | exact S1 | exact S0 | apply S2 | apply S3)))) H50 ?_
            clear H50; intro a51 H51
            refine htake 4 rfl (by kernel_rfl) (y_move rfl rfl) rfl rfl rfl (fun _ h => (h.sub (by first | exact S0 | exact S1 | repeat (first | exact S1 | exact S0 | apply S2 | apply S3)))) H51 ?_
            clear H51; intro a52 H52
            refine htake 5 rfl (by kernel_rfl) (y_ixR rfl Tryd.underlying49 z_size9 rfl rfl (by omega) (by omega) (rd_old (by assumption) (by simp)) (by rw [List.length_map]; omega)) rfl rfl rfl (fun _ h => (h.sub (by first | exact S0 | exact S1 | repeat (first | exact S1 | exact S0 | apply S2 | apply S3)))) H52 ?_
            clear H52; intro a53 H53
            refine htake 6 rfl (by kernel_rfl) (y_loadR rfl z_agg9 rfl (rd_old (by assumption) (by simp)) (by simp only [Int.toNat_natCast, Nat.mul_one, Nat.add_zero]; exact map_get _ _ _ [] (by omega))) rfl rfl rfl (fun _ h => (h.sub (by first | exact S0 | exact S1 | repeat (first | exact S1 | exact S0 | apply S2 | apply S3)))) H53 ?_
            clear H53; intro a54 H54
            refine hgo2 7 11 rfl rfl (by kernel_rfl) ?_ ?_
            · skip
              refine st_callg rfl z_call20 rfl rfl rfl rfl H54 (rlink a ha (i : Int) 1 time (by omega) (by omega) htm (l.getD i []) (by have := hb (l.getD i []) (by rw [Oct.getD_eq [] (by omega)]; exact List.getElem_mem _); omega)) ?_
              clear H54; intro a55 wx55 H55
              refine hfin (H55.sep.sub (by first | exact S0 | exact S1 | repeat (first | exact S1 | exact S0 | apply S2 | apply S3))) ?_
              refine htake 8 rfl (by kernel_rfl) (y_move rfl rfl) rfl rfl rfl (fun _ h => (h.sub (by first | exact S0 | exact S1 | repeat (first | exact S1 | exact S0 | apply S2 | apply S3)))) H55 ?_
              clear H55; intro a56 H56
              refine htake 9 rfl (by kernel_rfl) (y_extract rfl rfl rfl) rfl rfl rfl (fun _ h => (h.sub (by first | exact S0 | exact S1 | repeat (first | exact S1 | exact S0 | apply S2 | apply S3)))) H56 ?_
              clear H56; intro a57 H57
              refine htake 10 rfl (by kernel_rfl) (y_extract rfl rfl rfl) rfl rfl rfl (fun _ h => (h.sub (by first | exact S0 | exact S1 | repeat (first | exact S1 | exact S0 | apply S2 | apply S3)))) H57 ?_
              clear H57; intro a58 H58
              refine hgo 11 rfl (by kernel_rfl) ?_
              refine st_alloc rfl z_zeroN35 rfl rfl rfl H58 ?_
              clear H58; intro b59 a59 wx59 H59
              refine hfin (H59.sep.sub (by first | exact S0 | exact S1 | repeat (first | exact S1 | exact S0 | apply S2 | apply S3))) ?_
              refine hgo 12 rfl (by kernel_rfl) ?_
              refine st_storeN rfl z_size35 rfl rfl (agg_cells _) (by repeat (first | exact Uh | apply Ut)) (q_one_c4b32b32 rfl rfl rfl rfl) (q_len_c4b32b32 (by first | assumption | exact Note.linkF_prev _ ha | exact Note.linkF_hash _ _ _ _ _ | exact Note.readReceipt_len.1 | exact Note.readReceipt_len.2) (by first | assumption | exact Note.linkF_prev _ ha | exact Note.linkF_hash _ _ _ _ _ | exact Note.readReceipt_len.1 | exact Note.readReceipt_len.2)) (q_len_c4b32b32 (by first | assumption | exact Note.linkF_prev _ ha | exact Note.linkF_hash _ _ _ _ _ | exact Note.readReceipt_len.1 | exact Note.readReceipt_len.2) (by first | assumption | exact Note.linkF_prev _ ha | exact Note.linkF_hash _ _ _ _ _ | exact Note.readReceipt_len.1 | exact Note.readReceipt_len.2)) (q_spl_c4b32b32_0_c4b32b32 (by first | assumption | exact Note.linkF_prev _ ha | exact Note.linkF_hash _ _ _ _ _ | exact Note.readReceipt_len.1 | exact Note.readReceipt_len.2) (by first | assumption | exact Note.linkF_prev _ ha | exact Note.linkF_hash _ _ _ _ _ | exact Note.readReceipt_len.1 | exact Note.readReceipt_len.2) (by first | assumption | exact Note.linkF_prev _ ha | exact Note.linkF_hash _ _ _ _ _ | exact Note.readReceipt_len.1 | exact Note.readReceipt_len.2) (by first | assumption | exact Note.linkF_prev _ ha | exact Note.linkF_hash _ _ _ _ _ | exact Note.readReceipt_len.1 | exact Note.readReceipt_len.2)) (by decide) rfl rfl H59 ?_
              clear H59; intro wx60 H60
              refine hfin (H60.sep.sub (by first | exact S0 | exact S1 | repeat (first | exact S1 | exact S0 | apply S2 | apply S3))) ?_
              refine htake 13 rfl (by kernel_rfl) (y_assign rfl rfl) rfl rfl rfl (fun _ h => (h.sub (by first | exact S0 | exact S1 | repeat (first | exact S1 | exact S0 | apply S2 | apply S3)))) H60 ?_
              clear H60; intro a61 H61
              refine hdone (by kernel_rfl) ?_
              refine cut_n ?_
              exact ⟨_, (H61.drop (by first | exact S0 | exact S1 | repeat (first | exact S1 | exact S0 | apply S2 | apply S3))).weak ⟨rfl, rfl, rfl, rfl, rfl, rfl, rfl, rfl, rfl, trivial⟩ rfl⟩
            · skip
              refine st_alloc rfl z_zeroN35 rfl rfl rfl H54 ?_
              clear H54; intro b62 a62 wx62 H62
              refine hfin (H62.sep.sub (by first | exact S0 | exact S1 | repeat (first | exact S1 | exact S0 | apply S2 | apply S3))) ?_
              refine hgo 7 rfl (by kernel_rfl) ?_
              refine st_callg rfl z_call20 rfl rfl rfl rfl H62 (rlink a ha (i : Int) 1 time (by omega) (by omega) htm (l.getD i []) (by have := hb (l.getD i []) (by rw [Oct.getD_eq [] (by omega)]; exact List.getElem_mem _); omega)) ?_
              clear H62; intro a63 wx63 H63
              refine hfin (H63.sep.sub (by first | exact S0 | exact S1 | repeat (first | exact S1 | exact S0 | apply S2 | apply S3))) ?_
              refine htake 8 rfl (by kernel_rfl) (y_move rfl rfl) rfl rfl rfl (fun _ h => (h.sub (by first | exact S0 | exact S1 | repeat (first | exact S1 | exact S0 | apply S2 | apply S3)))) H63 ?_
              clear H63; intro a64 H64
              refine htake 9 rfl (by kernel_rfl) (y_extract rfl rfl rfl) rfl rfl rfl (fun _ h => (h.sub (by first | exact S0 | exact S1 | repeat (first | exact S1 | exact S0 | apply S2 | apply S3)))) H64 ?_
              clear H64; intro a65 H65
              refine htake 10 rfl (by kernel_rfl) (y_extract rfl rfl rfl) rfl rfl rfl (fun _ h => (h.sub (by first | exact S0 | exact S1 | repeat (first | exact S1 | exact S0 | apply S2 | apply S3)))) H65 ?_
              clear H65; intro a66 H66
              refine hgo 12 rfl (by kernel_rfl) ?_
              refine st_storeN rfl z_size35 rfl rfl (agg_cells _) (by repeat (first | exact Uh | apply Ut)) (q_one_c4b32b32 rfl rfl rfl rfl) (q_len_c4b32b32 (by first | assumption | exact Note.linkF_prev _ ha | exact Note.linkF_hash _ _ _ _ _ | exact Note.readReceipt_len.1 | exact Note.readReceipt_len.2) (by first | assumption | exact Note.linkF_prev _ ha | exact Note.linkF_hash _ _ _ _ _ | exact Note.readReceipt_len.1 | exact Note.readReceipt_len.2)) (q_len_c4b32b32 (by first | assumption | exact Note.linkF_prev _ ha | exact Note.linkF_hash _ _ _ _ _ | exact Note.readReceipt_len.1 | exact Note.readReceipt_len.2) (by first | assumption | exact Note.linkF_prev _ ha | exact Note.linkF_hash _ _ _ _ _ | exact Note.readReceipt_len.1 | exact Note.readReceipt_len.2)) (q_spl_c4b32b32_0_c4b32b32 (by first | assumption | exact Note.linkF_prev _ ha | exact Note.linkF_hash _ _ _ _ _ | exact Note.readReceipt_len.1 | exact Note.readReceipt_len.2) (by first | assumption | exact Note.linkF_prev _ ha | exact Note.linkF_hash _ _ _ _ _ | exact Note.readReceipt_len.1 | exact Note.readReceipt_len.2) (by first | assumption | exact Note.linkF_prev _ ha | exact Note.linkF_hash _ _ _ _ _ | exact Note.readReceipt_len.1 | exact Note.readReceipt_len.2) (by first | assumption | exact Note.linkF_prev _ ha | exact Note.linkF_hash _ _ _ _ _ | exact Note.readReceipt_len.1 | exact Note.readReceipt_len.2)) (by decide) rfl rfl H66 ?_
              clear H66; intro wx67 H67
              refine hfin (H67.sep.sub (by first | exact S0 | exact S1 | repeat (first | exact S1 | exact S0 | apply S2 | apply S3))) ?_
              refine htake 13 rfl (by kernel_rfl) (y_assign rfl rfl) rfl rfl rfl (fun _ h => (h.sub (by first | exact S0 | exact S1 | repeat (first | exact S1 | exact S0 | apply S2 | apply S3)))) H67 ?_
              clear H67; intro a68 H68
              refine hdone (by kernel_rfl) ?_
              refine cut_n ?_
              exact ⟨_, (H68.drop (by first | exact S0 | exact S1 | repeat (first | exact S1 | exact S0 | apply S2 | apply S3))).weak ⟨rfl, rfl, rfl, rfl, rfl, rfl, rfl, rfl, rfl, trivial⟩ rfl⟩
          · clear H46; intro a69 wx69 hI69
            obtain ⟨bD, H69⟩ := hI69
            refine then_n ?_
            refine wp_seq ?_
            refine wp_seq ?_
            have wfr : Note.Receipt.Wf (Note.link a (i : Int) 1 time (l.getD i [])).1 := Note.link_wf ha (by omega) (by omega) htm (by have := hb (l.getD i []) (by rw [Oct.getD_eq [] (by omega)]; exact List.getElem_mem _); omega)
            refine reg ?_
            refine plain (y_loadAB rfl z_agg35 z_size35 rfl (by repeat (first | exact Mh | apply Mt)) (q_ld_c4b32b32_0_68 (by first | assumption | exact Note.linkF_prev _ ha | exact Note.linkF_hash _ _ _ _ _ | exact Note.readReceipt_len.1 | exact Note.readReceipt_len.2) (by first | assumption | exact Note.linkF_prev _ ha | exact Note.linkF_hash _ _ _ _ _ | exact Note.readReceipt_len.1 | exact Note.readReceipt_len.2)) (q_len_c4b32b32 (by first | assumption | exact Note.linkF_prev _ ha | exact Note.linkF_hash _ _ _ _ _ | exact Note.readReceipt_len.1 | exact Note.readReceipt_len.2) (by first | assumption | exact Note.linkF_prev _ ha | exact Note.linkF_hash _ _ _ _ _ | exact Note.readReceipt_len.1 | exact Note.readReceipt_len.2))) rfl rfl rfl H69 ?_
            clear H69; intro a70 H70
            refine plain (y_loadAB rfl z_agg35 z_size35 rfl (by repeat (first | exact Mh | apply Mt)) (q_ld_c4b32b32_0_68 (by first | assumption | exact Note.linkF_prev _ ha | exact Note.linkF_hash _ _ _ _ _ | exact Note.readReceipt_len.1 | exact Note.readReceipt_len.2) (by first | assumption | exact Note.linkF_prev _ ha | exact Note.linkF_hash _ _ _ _ _ | exact Note.readReceipt_len.1 | exact Note.readReceipt_len.2)) (q_len_c4b32b32 (by first | assumption | exact Note.linkF_prev _ ha | exact Note.linkF_hash _ _ _ _ _ | exact Note.readReceipt_len.1 | exact Note.readReceipt_len.2) (by first | assumption | exact Note.linkF_prev _ ha | exact Note.linkF_hash _ _ _ _ _ | exact Note.readReceipt_len.1 | exact Note.readReceipt_len.2))) rfl rfl rfl H70 ?_
            clear H70; intro a71 H71
            refine plain (y_tneq rfl (by kernel_rfl) rfl rfl (eqr_Receipt (Note.link a (i : Int) 1 time (l.getD i [])).1 (Note.link a (i : Int) 1 time (l.getD i [])).1 (Note.linkF_prev _ ha) (Note.linkF_prev _ ha) (Note.linkF_hash _ _ _ _ _) (Note.linkF_hash _ _ _ _ _))) rfl rfl rfl H71 ?_
            clear H71; intro a72 H72
            refine plain (y_move rfl rfl) rfl rfl rfl H72 ?_
            clear H72; intro a73 H73
            have H75 := H73.know (d := 55) (v := .bool false) rfl (congrArg Value.bool (by simp))
            clear H73
            refine plain (y_move rfl rfl) rfl rfl rfl H75 ?_
            clear H75; intro a76 H76
            refine plain (y_move rfl rfl) rfl rfl rfl H76 ?_
            clear H76; intro a77 H77
            refine plain (y_neq rfl rfl rfl) rfl rfl rfl H77 ?_
            clear H77; intro a78 H78
            refine plain (y_pick_f rfl rfl rfl) rfl rfl rfl H78 ?_
            clear H78; intro a79 H79
            refine fin ?_
            refine then_n ?_
            refine cnd H79 rfl (fun hc80 => ?_) (fun hc80 => ?_) -- cond 3
            · (try simp only [decide_eq_true_eq, decide_eq_false_iff_not, Bool.not_eq_true', Bool.not_eq_false', Bool.and_eq_true, Bool.not_eq_true, Bool.not_eq_false] at hc80); exact absurd rfl hc80
            · skip
              try simp only [decide_eq_true_eq, decide_eq_false_iff_not, Bool.not_eq_true', Bool.not_eq_false', Bool.and_eq_true, Bool.not_eq_true, Bool.not_eq_false] at hc80
              refine wp_skip ?_
              refine then_n ?_
              refine wp_seq ?_
              refine wp_seq ?_
              refine reg ?_
              refine plain (y_move rfl rfl) rfl rfl rfl H79 ?_
              clear H79; intro a81 H81
              refine plain (y_neq rfl rfl rfl) rfl rfl rfl H81 ?_
              clear H81; intro a82 H82
              refine fin ?_
              refine then_n ?_
              refine cnd H82 rfl (fun hc83 => ?_) (fun hc83 => ?_) -- cond 4
              · skip
                try simp only [decide_eq_true_eq, decide_eq_false_iff_not, Bool.not_eq_true', Bool.not_eq_false', Bool.and_eq_true, Bool.not_eq_true, Bool.not_eq_false] at hc83
                refine wp_seq ?_
                refine reg ?_
                refine plain (y_loadAB rfl z_agg35 z_size35 rfl (by repeat (first | exact Mh | apply Mt)) (q_ld_c4b32b32_0_68 (by first | assumption | exact Note.linkF_prev _ ha | exact Note.linkF_hash _ _ _ _ _ | exact Note.readReceipt_len.1 | exact Note.readReceipt_len.2) (by first | assumption | exact Note.linkF_prev _ ha | exact Note.linkF_hash _ _ _ _ _ | exact Note.readReceipt_len.1 | exact Note.readReceipt_len.2)) (q_len_c4b32b32 (by first | assumption | exact Note.linkF_prev _ ha | exact Note.linkF_hash _ _ _ _ _ | exact Note.readReceipt_len.1 | exact Note.readReceipt_len.2) (by first | assumption | exact Note.linkF_prev _ ha | exact Note.linkF_hash _ _ _ _ _ | exact Note.readReceipt_len.1 | exact Note.readReceipt_len.2))) rfl rfl rfl H82 ?_
                clear H82; intro a84 H84
                refine plain (y_build rfl z_zeroN35 z_places35 rfl lay_n) rfl rfl rfl H84 ?_
                clear H84; intro a85 H85
                refine plain (y_teql rfl (by kernel_rfl) rfl rfl (eqr_Receipt (Note.link a (i : Int) 1 time (l.getD i [])).1 Note.Receipt.zero (Note.linkF_prev _ ha) rfl (Note.linkF_hash _ _ _ _ _) rfl)) rfl rfl rfl H85 ?_
                clear H85; intro a86 H86
                refine plain (y_assign rfl rfl) rfl rfl rfl H86 ?_
                clear H86; intro a87 H87
                refine fin ?_
                refine then_n ?_
                refine wp_ret ?_
                refine then_r ?_
                refine inb_r ?_
                refine then_r ?_
                refine then_r ?_
                refine inb_r ?_
                refine then_r ?_
                -- return 1
                refine ret1 rfl H87 rfl ?_
                first | (rw [Note.link_err (by assumption)]; exact ⟨_, [], rfl, ⟨congrArg Value.bool (decide_eq_true rfl), rfl⟩, H87.sep.sub (List.nil_sublist _)⟩) | exact ⟨_, [], rfl, ⟨rfl, rfl⟩, H87.sep.sub (List.nil_sublist _)⟩ | exact ⟨_, [], rfl, ⟨congrArg Value.bool (decide_eq_true (Note.link_err (by assumption))), rfl⟩, H87.sep.sub (List.nil_sublist _)⟩
              · skip
                try simp only [decide_eq_true_eq, decide_eq_false_iff_not, Bool.not_eq_true', Bool.not_eq_false', Bool.and_eq_true, Bool.not_eq_true, Bool.not_eq_false] at hc83
                refine wp_skip ?_
                refine then_n ?_
                refine wp_seq ?_
                have hk0 : (Note.link a (i : Int) 1 time (l.getD i [])).2 = 0 := by omega
                have hw0 := Note.writeReceipt_link ha hk0
                have hr0 := Note.readReceipt_write (Note.linkF_prev _ ha) (Note.linkF_hash _ _ _ _ _) hw0
                refine reg ?_
                refine plain (y_loadAB rfl z_agg35 z_size35 rfl (by repeat (first | exact Mh | apply Mt)) (q_ld_c4b32b32_0_68 (by first | assumption | exact Note.linkF_prev _ ha | exact Note.linkF_hash _ _ _ _ _ | exact Note.readReceipt_len.1 | exact Note.readReceipt_len.2) (by first | assumption | exact Note.linkF_prev _ ha | exact Note.linkF_hash _ _ _ _ _ | exact Note.readReceipt_len.1 | exact Note.readReceipt_len.2)) (q_len_c4b32b32 (by first | assumption | exact Note.linkF_prev _ ha | exact Note.linkF_hash _ _ _ _ _ | exact Note.readReceipt_len.1 | exact Note.readReceipt_len.2) (by first | assumption | exact Note.linkF_prev _ ha | exact Note.linkF_hash _ _ _ _ _ | exact Note.readReceipt_len.1 | exact Note.readReceipt_len.2))) rfl rfl rfl H82 ?_
                clear H82; intro a88 H88
                refine st_callg rfl z_call17 rfl rfl rfl rfl H88 (nwrec (Note.link a (i : Int) 1 time (l.getD i [])).1 wfr (hG.frm H88.sep.frm (by simp))) ?_
                clear H88; intro a89 wx89 H89
                refine plain (y_move rfl rfl) rfl rfl rfl H89 ?_
                clear H89; intro a90 H90
                refine plain (y_extract rfl rfl rfl) rfl rfl rfl H90 ?_
                clear H90; intro a91 H91
                refine plain (y_extract rfl rfl rfl) rfl rfl rfl H91 ?_
                clear H91; intro a92 H92
                refine plain (y_assign rfl rfl) rfl rfl rfl H92 ?_
                clear H92; intro a93 H93
                refine plain (y_assign rfl rfl) rfl rfl rfl H93 ?_
                clear H93; intro a94 H94
                refine fin ?_
                refine then_n ?_
                refine wp_seq ?_
                refine reg ?_
                refine plain (y_move rfl rfl) rfl rfl rfl H94 ?_
                clear H94; intro a95 H95
                refine st_callg rfl z_call25 rfl rfl rfl rfl H95 (nreadrec (Note.writeReceipt (Note.link a (i : Int) 1 time (l.getD i [])).1).1 (by have := Note.wrec_len (r := (Note.link a (i : Int) 1 time (l.getD i [])).1); omega) (hG.frm H95.sep.frm (by simp))) ?_
                clear H95; intro a96 wx96 H96
                refine plain (y_move rfl rfl) rfl rfl rfl H96 ?_
                clear H96; intro a97 H97
                refine plain (y_extract rfl rfl rfl) rfl rfl rfl H97 ?_
                clear H97; intro a98 H98
                refine plain (y_extract rfl rfl rfl) rfl rfl rfl H98 ?_
                clear H98; intro a99 H99
                refine st_alloc rfl z_zeroN35 rfl rfl rfl H99 ?_
                clear H99; intro b100 a100 wx100 H100
                refine st_storeN rfl z_size35 rfl rfl (agg_cells _) (by repeat (first | exact Uh | apply Ut)) (q_one_c4b32b32 rfl rfl rfl rfl) (q_len_c4b32b32 (by first | assumption | exact Note.linkF_prev _ ha | exact Note.linkF_hash _ _ _ _ _ | exact Note.readReceipt_len.1 | exact Note.readReceipt_len.2) (by first | assumption | exact Note.linkF_prev _ ha | exact Note.linkF_hash _ _ _ _ _ | exact Note.readReceipt_len.1 | exact Note.readReceipt_len.2)) (q_len_c4b32b32 (by first | assumption | exact Note.linkF_prev _ ha | exact Note.linkF_hash _ _ _ _ _ | exact Note.readReceipt_len.1 | exact Note.readReceipt_len.2) (by first | assumption | exact Note.linkF_prev _ ha | exact Note.linkF_hash _ _ _ _ _ | exact Note.readReceipt_len.1 | exact Note.readReceipt_len.2)) (q_spl_c4b32b32_0_c4b32b32 (by first | assumption | exact Note.linkF_prev _ ha | exact Note.linkF_hash _ _ _ _ _ | exact Note.readReceipt_len.1 | exact Note.readReceipt_len.2) (by first | assumption | exact Note.linkF_prev _ ha | exact Note.linkF_hash _ _ _ _ _ | exact Note.readReceipt_len.1 | exact Note.readReceipt_len.2) (by first | assumption | exact Note.linkF_prev _ ha | exact Note.linkF_hash _ _ _ _ _ | exact Note.readReceipt_len.1 | exact Note.readReceipt_len.2) (by first | assumption | exact Note.linkF_prev _ ha | exact Note.linkF_hash _ _ _ _ _ | exact Note.readReceipt_len.1 | exact Note.readReceipt_len.2)) (by decide) rfl rfl H100 ?_
                clear H100; intro wx101 H101
                refine plain (y_assign rfl rfl) rfl rfl rfl H101 ?_
                clear H101; intro a102 H102
                refine fin ?_
                refine then_n ?_
                refine wp_seq ?_
                refine wp_seq ?_
                refine reg ?_
                refine plain (y_move rfl rfl) rfl rfl rfl H102 ?_
                clear H102; intro a103 H103
                refine plain (y_neq rfl rfl rfl) rfl rfl rfl H103 ?_
                clear H103; intro a104 H104
                refine plain (y_move rfl rfl) rfl rfl rfl H104 ?_
                clear H104; intro a105 H105
                have H107 := H105.know (d := 77) (v := .bool false) rfl (congrArg Value.bool (decide_eq_false (fun h => h hw0)))
                clear H105
                refine plain (y_move rfl rfl) rfl rfl rfl H107 ?_
                clear H107; intro a108 H108
                refine plain (y_neq rfl rfl rfl) rfl rfl rfl H108 ?_
                clear H108; intro a109 H109
                refine plain (y_pick_f rfl rfl rfl) rfl rfl rfl H109 ?_
                clear H109; intro a110 H110
                refine plain (y_move rfl rfl) rfl rfl rfl H110 ?_
                clear H110; intro a111 H111
                have H113 := H111.know (d := 81) (v := .bool false) rfl (congrArg Value.bool (decide_eq_false (fun h => h (by rw [hr0]))))
                clear H111
                refine plain (y_loadAB rfl z_agg35 z_size35 rfl (by repeat (first | exact Mh | apply Mt)) (q_ld_c4b32b32_0_68 (by first | assumption | exact Note.linkF_prev _ ha | exact Note.linkF_hash _ _ _ _ _ | exact Note.readReceipt_len.1 | exact Note.readReceipt_len.2) (by first | assumption | exact Note.linkF_prev _ ha | exact Note.linkF_hash _ _ _ _ _ | exact Note.readReceipt_len.1 | exact Note.readReceipt_len.2)) (q_len_c4b32b32 (by first | assumption | exact Note.linkF_prev _ ha | exact Note.linkF_hash _ _ _ _ _ | exact Note.readReceipt_len.1 | exact Note.readReceipt_len.2) (by first | assumption | exact Note.linkF_prev _ ha | exact Note.linkF_hash _ _ _ _ _ | exact Note.readReceipt_len.1 | exact Note.readReceipt_len.2))) rfl rfl rfl H113 ?_
                clear H113; intro a114 H114
                refine plain (y_loadAB rfl z_agg35 z_size35 rfl (by repeat (first | exact Mh | apply Mt)) (q_ld_c4b32b32_0_68 (by first | assumption | exact Note.linkF_prev _ ha | exact Note.linkF_hash _ _ _ _ _ | exact Note.readReceipt_len.1 | exact Note.readReceipt_len.2) (by first | assumption | exact Note.linkF_prev _ ha | exact Note.linkF_hash _ _ _ _ _ | exact Note.readReceipt_len.1 | exact Note.readReceipt_len.2)) (q_len_c4b32b32 (by first | assumption | exact Note.linkF_prev _ ha | exact Note.linkF_hash _ _ _ _ _ | exact Note.readReceipt_len.1 | exact Note.readReceipt_len.2) (by first | assumption | exact Note.linkF_prev _ ha | exact Note.linkF_hash _ _ _ _ _ | exact Note.readReceipt_len.1 | exact Note.readReceipt_len.2))) rfl rfl rfl H114 ?_
                clear H114; intro a115 H115
                refine plain (y_tneq rfl (by kernel_rfl) rfl rfl (eqr_Receipt (Note.readReceipt (Note.writeReceipt (Note.link a (i : Int) 1 time (l.getD i [])).1).1).1 (Note.link a (i : Int) 1 time (l.getD i [])).1 Note.readReceipt_len.1 (Note.linkF_prev _ ha) Note.readReceipt_len.2 (Note.linkF_hash _ _ _ _ _))) rfl rfl rfl H115 ?_
                clear H115; intro a116 H116
                refine plain (y_pick_f rfl rfl rfl) rfl rfl rfl H116 ?_
                clear H116; intro a117 H117
                refine plain (y_move rfl rfl) rfl rfl rfl H117 ?_
                clear H117; intro a118 H118
                have H120 := H118.know (d := 86) (v := .bool false) rfl (congrArg Value.bool (by rw [hr0]; simp))
                clear H118
                refine plain (y_fieldB rfl z_field35_4 rfl (by first | (simp only [Nat.zero_add, Nat.add_zero, Nat.reduceAdd]; rfl) | rfl)) rfl rfl rfl H120 ?_
                clear H120; intro a121 H121
                refine plain (y_loadAB rfl z_agg23 z_size23 rfl (by repeat (first | exact Mh | apply Mt)) (q_ld_c4b32b32_4_32 (by first | assumption | exact Note.linkF_prev _ ha | exact Note.linkF_hash _ _ _ _ _ | exact Note.readReceipt_len.1 | exact Note.readReceipt_len.2)) (q_len_b32 (by first | assumption | exact Note.linkF_prev _ ha | exact Note.linkF_hash _ _ _ _ _ | exact Note.readReceipt_len.1 | exact Note.readReceipt_len.2))) rfl rfl rfl H121 ?_
                clear H121; intro a122 H122
                refine plain (y_loadAB rfl z_agg23 z_size23 rfl (by repeat (first | exact Mh | apply Mt)) (q_ld_b32_0_32 (by first | assumption | exact Note.linkF_prev _ ha | exact Note.linkF_hash _ _ _ _ _ | exact Note.readReceipt_len.1 | exact Note.readReceipt_len.2)) (q_len_b32 (by first | assumption | exact Note.linkF_prev _ ha | exact Note.linkF_hash _ _ _ _ _ | exact Note.readReceipt_len.1 | exact Note.readReceipt_len.2))) rfl rfl rfl H122 ?_
                clear H122; intro a123 H123
                refine plain (y_hneq rfl Tryd.eqGuardType23 Tryd.underlying23 Tryd.underlying5 z_size5 rfl rfl (by first | assumption | exact Note.linkF_prev _ ha | exact Note.linkF_hash _ _ _ _ _ | exact Note.readReceipt_len.1 | exact Note.readReceipt_len.2) (by first | assumption | exact Note.linkF_prev _ ha | exact Note.linkF_hash _ _ _ _ _ | exact Note.readReceipt_len.1 | exact Note.readReceipt_len.2)) rfl rfl rfl H123 ?_
                clear H123; intro a124 H124
                refine plain (y_pick_f rfl rfl rfl) rfl rfl rfl H124 ?_
                clear H124; intro a125 H125
                refine fin ?_
                refine then_n ?_
                refine cnd H125 rfl (fun hc126 => ?_) (fun hc126 => ?_) -- cond 5
                · (try simp only [decide_eq_true_eq, decide_eq_false_iff_not, Bool.not_eq_true', Bool.not_eq_false', Bool.and_eq_true, Bool.not_eq_true, Bool.not_eq_false] at hc126); exact absurd (Note.link_prev hk0) hc126
                · skip
                  try simp only [decide_eq_true_eq, decide_eq_false_iff_not, Bool.not_eq_true', Bool.not_eq_false', Bool.and_eq_true, Bool.not_eq_true, Bool.not_eq_false] at hc126
                  refine wp_skip ?_
                  refine then_n ?_
                  refine hreg [It.blk bD 35 (Note.Receipt.cells (Note.link a (i : Int) 1 time (l.getD i [])).1), It.blk bC 35 (Note.Receipt.cells (Note.link a (i : Int) 1 time (l.getD i [])).1)] (fun _ h => (h.sub (by first | exact S0 | exact S1 | repeat (first | exact S1 | exact S0 | apply S2 | apply S3)))) (by kernel_rfl) H125 ?_
                  clear H125; intro wx127 H127
                  refine htake 0 rfl (by kernel_rfl) (y_fieldB rfl z_field35_5 rfl (by first | (simp only [Nat.zero_add, Nat.add_zero, Nat.reduceAdd]; rfl) | rfl)) rfl rfl rfl (fun _ h => (h.sub (by first | exact S0 | exact S1 | repeat (first | exact S1 | exact S0 | apply S2 | apply S3)))) H127 ?_
                  clear H127; intro a128 H128
                  refine htake 1 rfl (by kernel_rfl) (y_loadAB rfl z_agg23 z_size23 rfl (by repeat (first | exact Mh | apply Mt)) (q_ld_c4b32b32_36_32 (by first | assumption | exact Note.linkF_prev _ ha | exact Note.linkF_hash _ _ _ _ _ | exact Note.readReceipt_len.1 | exact Note.readReceipt_len.2) (by first | assumption | exact Note.linkF_prev _ ha | exact Note.linkF_hash _ _ _ _ _ | exact Note.readReceipt_len.1 | exact Note.readReceipt_len.2)) (q_len_b32 (by first | assumption | exact Note.linkF_prev _ ha | exact Note.linkF_hash _ _ _ _ _ | exact Note.readReceipt_len.1 | exact Note.readReceipt_len.2))) rfl rfl rfl (fun _ h => (h.sub (by first | exact S0 | exact S1 | repeat (first | exact S1 | exact S0 | apply S2 | apply S3)))) H128 ?_
                  clear H128; intro a129 H129
                  refine htake 2 rfl (by kernel_rfl) (y_fieldB rfl z_field35_5 rfl (by first | (simp only [Nat.zero_add, Nat.add_zero, Nat.reduceAdd]; rfl) | rfl)) rfl rfl rfl (fun _ h => (h.sub (by first | exact S0 | exact S1 | repeat (first | exact S1 | exact S0 | apply S2 | apply S3)))) H129 ?_
                  clear H129; intro a130 H130
                  refine htake 3 rfl (by kernel_rfl) (y_loadAB rfl z_agg23 z_size23 rfl (by repeat (first | exact Mh | apply Mt)) (q_ld_c4b32b32_36_32 (by first | assumption | exact Note.linkF_prev _ ha | exact Note.linkF_hash _ _ _ _ _ | exact Note.readReceipt_len.1 | exact Note.readReceipt_len.2) (by first | assumption | exact Note.linkF_prev _ ha | exact Note.linkF_hash _ _ _ _ _ | exact Note.readReceipt_len.1 | exact Note.readReceipt_len.2)) (q_len_b32 (by first | assumption | exact Note.linkF_prev _ ha | exact Note.linkF_hash _ _ _ _ _ | exact Note.readReceipt_len.1 | exact Note.readReceipt_len.2))) rfl rfl rfl (fun _ h => (h.sub (by first | exact S0 | exact S1 | repeat (first | exact S1 | exact S0 | apply S2 | apply S3)))) H130 ?_
                  clear H130; intro a131 H131
                  refine hgo 4 rfl (by kernel_rfl) ?_
                  refine st_storeN rfl z_size23 rfl rfl (agg_cells _) (by repeat (first | exact Uh | apply Ut)) q_one_b32 (q_len_b32 (by first | assumption | exact Note.linkF_prev _ ha | exact Note.linkF_hash _ _ _ _ _ | exact Note.readReceipt_len.1 | exact Note.readReceipt_len.2)) (q_len_b32 (by first | assumption | exact Note.linkF_prev _ ha | exact Note.linkF_hash _ _ _ _ _ | exact Note.readReceipt_len.1 | exact Note.readReceipt_len.2)) (q_spl_b32_0_b32 (by first | assumption | exact Note.linkF_prev _ ha | exact Note.linkF_hash _ _ _ _ _ | exact Note.readReceipt_len.1 | exact Note.readReceipt_len.2) (by first | assumption | exact Note.linkF_prev _ ha | exact Note.linkF_hash _ _ _ _ _ | exact Note.readReceipt_len.1 | exact Note.readReceipt_len.2)) (by decide) rfl rfl H131 ?_
                  clear H131; intro wx132 H132
                  refine hfin (H132.sep.sub (by first | exact S0 | exact S1 | repeat (first | exact S1 | exact S0 | apply S2 | apply S3))) ?_
                  refine hgo 5 rfl (by kernel_rfl) ?_
                  refine st_storeN rfl z_size23 rfl rfl (agg_cells _) (by repeat (first | exact Uh | apply Ut)) q_one_b32 (q_len_b32 (by first | assumption | exact Note.linkF_prev _ ha | exact Note.linkF_hash _ _ _ _ _ | exact Note.readReceipt_len.1 | exact Note.readReceipt_len.2)) (q_len_b32 (by first | assumption | exact Note.linkF_prev _ ha | exact Note.linkF_hash _ _ _ _ _ | exact Note.readReceipt_len.1 | exact Note.readReceipt_len.2)) (q_spl_b32_0_b32 (by first | assumption | exact Note.linkF_prev _ ha | exact Note.linkF_hash _ _ _ _ _ | exact Note.readReceipt_len.1 | exact Note.readReceipt_len.2) (by first | assumption | exact Note.linkF_prev _ ha | exact Note.linkF_hash _ _ _ _ _ | exact Note.readReceipt_len.1 | exact Note.readReceipt_len.2)) (by decide) rfl rfl H132 ?_
                  clear H132; intro wx133 H133
                  refine hfin (H133.sep.sub (by first | exact S0 | exact S1 | repeat (first | exact S1 | exact S0 | apply S2 | apply S3))) ?_
                  refine hdone (by kernel_rfl) ?_
                  refine inb_n ?_
                  refine then_n ?_
                  refine reg ?_
                  refine plain (y_move rfl rfl) rfl rfl rfl H133 ?_
                  clear H133; intro a134 H134
                  refine plain (y_add rfl rfl rfl (by first | exact w64 (by omega) (by omega) | rfl)) rfl rfl rfl H134 ?_
                  clear H134; intro a135 H135
                  refine plain (y_assign rfl rfl) rfl rfl rfl H135 ?_
                  clear H135; intro a136 H136
                  refine fin ?_
                  refine then_n ?_
                  refine ⟨(i + 1, (Note.link a (i : Int) 1 time (l.getD i [])).1.hash), by dsimp only; omega, ⟨by dsimp only; omega, Note.linkF_hash _ _ _ _ _⟩, (H136.drop (by first | exact S0 | exact S1 | repeat (first | exact S1 | exact S0 | apply S2 | apply S3))).weak ⟨rfl, rfl, rfl, rfl, fi rfl (by dsimp only; omega), trivial⟩ rfl⟩
      · skip
        try simp only [decide_eq_true_eq, decide_eq_false_iff_not, Bool.not_eq_true', Bool.not_eq_false', Bool.and_eq_true, Bool.not_eq_true, Bool.not_eq_false] at hc23
        refine wp_exit ?_
        refine then_x ?_
        refine then_x ?_
        refine inb_hit ?_
        refine then_n ?_
        refine wp_seq ?_
        refine reg ?_
        refine plain (y_assign rfl rfl) rfl rfl rfl H22 ?_
        clear H22; intro a137 H137
        refine fin ?_
        refine then_n ?_
        refine wp_ret ?_
        -- return 2
        refine ret1 rfl H137 rfl ?_
        first | (rw [Note.link_err (by assumption)]; exact ⟨_, [], rfl, ⟨congrArg Value.bool (decide_eq_true rfl), rfl⟩, H137.sep.sub (List.nil_sublist _)⟩) | exact ⟨_, [], rfl, ⟨rfl, rfl⟩, H137.sep.sub (List.nil_sublist _)⟩ | exact ⟨_, [], rfl, ⟨congrArg Value.bool (decide_eq_true (Note.link_err (by assumption))), rfl⟩, H137.sep.sub (List.nil_sublist _)⟩
  · first
    | fail
    | skip
      clear H17; intro H138
      try simp only [decide_eq_true_eq, decide_eq_false_iff_not, Bool.not_eq_true', Bool.not_eq_false', Bool.and_eq_true, Bool.not_eq_true, Bool.not_eq_false] at hg18
      refine skip rfl rfl rfl H138 ?_
      clear H138; intro a139 H139
      refine skip rfl rfl rfl H139 ?_
      clear H139; intro a140 H140
      refine plain (y_pick_f rfl rfl rfl) rfl rfl rfl H140 ?_
      clear H140; intro a141 H141
      refine fin ?_
      refine then_n ?_
      refine cnd_f H141 rfl ?_
      refine wp_exit ?_
      refine then_x ?_
      refine then_x ?_
      refine inb_hit ?_
      refine then_n ?_
      refine wp_seq ?_
      refine reg ?_
      refine plain (y_assign rfl rfl) rfl rfl rfl H141 ?_
      clear H141; intro a143 H143
      refine fin ?_
      refine then_n ?_
      refine wp_ret ?_
      -- return 3
      refine ret1 rfl H143 rfl ?_
      first | (rw [Note.link_err (by assumption)]; exact ⟨_, [], rfl, ⟨congrArg Value.bool (decide_eq_true rfl), rfl⟩, H143.sep.sub (List.nil_sublist _)⟩) | exact ⟨_, [], rfl, ⟨rfl, rfl⟩, H143.sep.sub (List.nil_sublist _)⟩ | exact ⟨_, [], rfl, ⟨congrArg Value.bool (decide_eq_true (Note.link_err (by assumption))), rfl⟩, H143.sep.sub (List.nil_sublist _)⟩

end Go.Proofs.YtnnhnnhdoipbaaaDoor.N_L3
