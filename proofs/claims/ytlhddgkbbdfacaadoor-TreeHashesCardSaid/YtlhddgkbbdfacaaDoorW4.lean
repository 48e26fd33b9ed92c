/- Part of a proof about given Go functions: contracts of functions, or plain laws. -/
import Derived.Test.YtlhddgkbbdfacaaDoorS8
import Derived.Test.YtlhddgkbbdfacaaDoorS7
import Derived.Test.YtlhddgkbbdfacaaDoorS4
import Derived.Test.YtlhddgkbbdfacaaDoorS1
import Derived.Test.YtlhddgkbbdfacaaDoorS3
import Derived.Test.YtlhddgkbbdfacaaDoorS2
import Derived.Test.YtlhddgkbbdfacaaDoorS9
import Derived.Test.YtlhddgkbbdfacaaDoorProg
import Derived.Test.YtlhddgkbbdfacaaDoorW2
import Derived.Test.YtlhddgkbbdfacaaDoorW1
import Derived.Test.YtlhddgkbbdfacaaDoorW3
set_option linter.unusedVariables false
set_option linter.unusedSimpArgs false
namespace Go.Proofs.YtlhddgkbbdfacaaDoor.C_Ea
open Go.Sx Go.RowKit Go.Proofs.YtlhddgkbbdfacaaDoor.C_Hash Go.Proofs.YtlhddgkbbdfacaaDoor.C_Nx Go.Proofs.YtlhddgkbbdfacaaDoor.C_Sm

theorem z_field77_1 : fieldB Tryd.prog 77 1 = some 1 := by kernel_rfl
theorem z_agg75 : aggB Tryd.prog 75 = some false := by kernel_rfl
theorem z_size23 : sizeB Tryd.prog 23 = some 32 := by kernel_rfl
theorem z_agg23 : aggB Tryd.prog 23 = some true := by kernel_rfl
theorem z_zeroN23 : zeroL Tryd.prog 23 = some ((List.replicate 32 (0 : UInt8)).map u8) := by kernel_rfl
theorem q_one_b32 {t0 : List UInt8} : (t0.map u8).all (·.oneCell') = true := (one_u8 _)
theorem q_len_b32 {t0 : List UInt8} (h0 : t0.length = 32) : (t0.map u8).length = 32 := (len_e (k := 32) h0)
theorem q_spl_b32_0_b32 {t0 : List UInt8} {s0 : List UInt8} (h0 : t0.length = 32) (g0 : s0.length = 32) : spl (t0.map u8) 0 (s0.map u8) = s0.map u8 := (spl_a (z := 32) (len_e (k := 32) h0) (len_e (k := 32) g0))
theorem q_ld_b32_0_32 {t0 : List UInt8} (h0 : t0.length = 32) : ((t0.map u8).drop 0).take 32 = t0.map u8 := (ld_a (len_e (k := 32) h0))

set_option maxRecDepth 100000 in
set_option maxHeartbeats 1000000 in
theorem enterB {P : Program} {S : List Nat} {w0 : World} {f : FuncId} {fn : Func} {c : Code} {args : List Value} {w : World} {R : Ending → World → Prop} (hf : P.funcs[f]? = some fn) (hb : fn.body = some c) (hn : Nat.ble args.length fn.ntmps = true) {l : List It} (hS : Sep S w0 w l)
    (h : ∀ a, St fn.ntmps S w0 (slots 0 args) l a w → c.wp P (bodyPost P fn R) a w) : Calls P f args.toArray w R := by
  refine calls_of_wp hf hb (h _ ⟨⟨?_, rfl, fun t v ht => ?_⟩, hS⟩)
  · have := Nat.le_of_ble_eq_true hn
    simp
    omega
  · have h1 := (find_slots args 0 t v ht).2
    have h2 : t < args.length := (List.getElem?_eq_some_iff.1 (by simpa using h1)).1
    show (args.toArray ++ _)[t]? = some v
    rw [Array.getElem?_append_left (by simpa using h2)]
    simpa using h1

set_option maxRecDepth 100000 in
set_option maxHeartbeats 1000000 in
theorem teach (X : List Inbox.BA) (hX : Tree.Wfs X) (h0 : 0 < X.length) (hlen : X.length ≤ 4097) (dp de : Int) (c : Nat) (v u : Value) {w0 : World} (hc_ : (It.blk c 77 [v, u, i64 dp, i64 de]).P w0) (hu_ : (It.row 23 32 u X.length (hc (Tree.hashes (Tree.bl X)))).P w0) (r : Nat) (I : List It) (N M : Nat → Prop) (Ix : Nat → List It) (hN0 : N 0) {w : World} (hs : Sep [] w0 w I)
    (hY : ∀ k w', k < X.length → N k → Sep [] w0 w' I → YieldAt Fence.wide 0 Tryd.prog r [Value.int .i64 (k : Int), .agg (((Tree.hashes (Tree.bl X)).getD k []).map u8).toArray].toArray w' fun e W' => (e = .returned (.bool true) ∧ (N (k + 1) ∧ Sep [] w0 W' I)) ∨ (e = .returned (.bool false) ∧ (M k ∧ Sep [] w0 W' (Ix k)))) :
    Calls Tryd.prog 44 #[.pointer (some ⟨c, 0, none⟩), .func (.yield r) #[] #[]] w fun e w' => ∃ v, e = .returned v ∧ ((N X.length ∧ Sep [] w0 w' I) ∨ ∃ k, k < X.length ∧ M k ∧ Sep [] w0 w' (Ix k)) := by
  obtain ⟨A2, c2, rfl, hRu, hmu⟩ := Row.rd hu_
  have lz32 : (List.replicate 32 (0 : UInt8)).length = 32 := List.length_replicate
  refine enterB (args := [.pointer (some ⟨c, 0, none⟩), .func (.yield r) #[] #[]]) Tryd.func44 rfl rfl (l := I) hs ?_
  intro a0 H0
  refine wp_seq ?_
  refine wp_seq ?_
  refine reg ?_
  refine plain (y_move rfl rfl) rfl rfl rfl H0 ?_
  clear H0; intro a1 H1
  refine plain (y_peql rfl Tryd.underlying33 rfl rfl) rfl rfl rfl H1 ?_
  clear H1; intro a2 H2
  refine fin ?_
  refine then_n ?_
  refine cnd H2 rfl (fun hc3 => ?_) (fun hc3 => ?_) -- cond 1
  · exact absurd hc3 (by simp)
  · skip
    try simp only [decide_eq_true_eq, decide_eq_false_iff_not, Bool.not_eq_true', Bool.not_eq_false', Bool.and_eq_true, Bool.not_eq_true, Bool.not_eq_false] at hc3
    refine wp_skip ?_
    refine then_n ?_
    refine wp_seq ?_
    refine reg ?_
    refine plain (y_move rfl rfl) rfl rfl rfl H2 ?_
    clear H2; intro a4 H4
    refine plain (y_nilCheck rfl rfl) rfl rfl rfl H4 ?_
    clear H4; intro a5 H5
    refine plain (y_fieldB rfl z_field77_1 rfl (by first | (simp only [Nat.zero_add, Nat.add_zero, Nat.reduceAdd]; rfl) | rfl)) rfl rfl rfl H5 ?_
    clear H5; intro a6 H6
    refine plain (y_loadO rfl z_agg75 rfl (blk_cell hc_ (by rfl)) (by simp)) rfl rfl rfl H6 ?_
    clear H6; intro a7 H7
    refine plain (y_len rfl Tryd.underlying75 rfl) rfl rfl rfl H7 ?_
    clear H7; intro a8 H8
    refine plain (y_move rfl rfl) rfl rfl rfl H8 ?_
    clear H8; intro a9 H9
    refine fin ?_
    refine then_n ?_
    refine wp_block ?_
    refine loop (ι := Nat) (fun k => [(0, .pointer (some ⟨c, 0, none⟩)), (1, .func (.yield r) #[] #[]), (11, .slice A2 X.length c2), (12, .int .i64 (X.length : Int)), (13, .int .i64 (k : Int))]) (fun k => I) (fun k => k ≤ X.length ∧ N k) (fun k => X.length - k) (0) ⟨Nat.zero_le _, hN0⟩ (H9.weak ⟨rfl, rfl, rfl, rfl, rfl, trivial⟩ rfl) ?_
    clear H9; intro k a10 wx10 hok10 H10
    obtain ⟨hk, hN⟩ := hok10
    refine wp_seq ?_
    refine reg ?_
    refine plain (y_lss rfl rfl rfl) rfl rfl rfl H10 ?_
    clear H10; intro a11 H11
    refine fin ?_
    refine then_n ?_
    refine wp_seq ?_
    refine cnd H11 rfl (fun hc12 => ?_) (fun hc12 => ?_) -- cond 2
    · skip
      try simp only [decide_eq_true_eq, decide_eq_false_iff_not, Bool.not_eq_true', Bool.not_eq_false', Bool.and_eq_true, Bool.not_eq_true, Bool.not_eq_false] at hc12
      have hhl : ((Tree.hashes (Tree.bl X)).getD k []).length = 32 := (Tree.hashes_h _).getD (by rw [Tree.hashes_len, Tree.bl_len]; omega)
      refine wp_skip ?_
      refine then_n ?_
      refine wp_seq ?_
      refine wp_block ?_
      refine wp_seq ?_
      refine reg ?_
      refine plain (y_move rfl rfl) rfl rfl rfl H11 ?_
      clear H11; intro a13 H13
      refine plain (y_ixR rfl Tryd.underlying75 z_size23 rfl rfl (by omega) (by omega) (rd_old hRu (by simp)) (by rw [Tree.hc_hs]; omega)) rfl rfl rfl H13 ?_
      clear H13; intro a14 H14
      refine plain (y_loadAS rfl z_agg23 z_size23 rfl (rd_old hRu (by simp)) (show _ = ((Tree.hashes (Tree.bl X)).getD k []).map u8 from hc_take _ (Tree.hashes_h _) (by rw [Tree.hashes_len, Tree.bl_len]; omega)) (by rw [List.length_map]; exact (Tree.hashes_h _).getD (by rw [Tree.hashes_len, Tree.bl_len]; omega)) (by decide)) rfl rfl rfl H14 ?_
      clear H14; intro a15 H15
      refine st_alloc rfl z_zeroN23 rfl rfl rfl H15 ?_
      clear H15; intro b16 a16 wx16 H16
      refine plain (y_assign rfl rfl) rfl rfl rfl H16 ?_
      clear H16; intro a17 H17
      refine st_storeN rfl z_size23 rfl rfl (agg_cells _) (by repeat (first | exact Uh | apply Ut)) q_one_b32 (q_len_b32 (by first | assumption | exact hhl)) (q_len_b32 (by first | assumption | exact hhl)) (q_spl_b32_0_b32 (by first | assumption | exact hhl) (by first | assumption | exact hhl)) (by decide) rfl rfl H17 ?_
      clear H17; intro wx18 H18
      refine fin ?_
      refine then_n ?_
      refine wp_seq ?_
      refine reg_wide ?_
      refine plainW (y_move rfl rfl) rfl rfl rfl H18 ?_
      clear H18; intro a19 H19
      refine plainW (y_move rfl rfl) rfl rfl rfl H19 ?_
      clear H19; intro a20 H20
      refine plainW (y_loadAB rfl z_agg23 z_size23 rfl (by repeat (first | exact Mh | apply Mt)) (q_ld_b32_0_32 (by first | assumption | exact hhl)) (q_len_b32 (by first | assumption | exact hhl))) rfl rfl rfl H20 ?_
      clear H20; intro a21 H21
      refine yieldW rfl rfl rfl rfl rfl rfl H21 (hY k _ (by omega) hN (H21.sep.sub (List.sublist_cons_self _ _))) ?_ ?_
      · rintro w22 a22 ⟨hN2, hs2⟩ F22
        refine plainW (y_not rfl rfl) rfl rfl rfl ⟨F22, hs2⟩ ?_
        clear H21; intro a23 H23
        refine wpListIn_nil ?_
        refine then_n ?_
        refine cnd H23 rfl (fun hc24 => absurd hc24 (by simp)) (fun hc24 => ?_)
        refine wp_skip ?_
        refine inb_n ?_
        refine then_n ?_
        refine reg ?_
        refine plain (y_add rfl rfl rfl (by first | exact w64 (by omega) (by omega) | rfl)) rfl rfl rfl H23 ?_
        clear H23; intro a25 H25
        refine plain (y_move rfl rfl) rfl rfl rfl H25 ?_
        clear H25; intro a26 H26
        refine fin ?_
        refine then_n ?_
        exact ⟨k + 1, by omega, ⟨by omega, hN2⟩, H26.weak ⟨rfl, rfl, rfl, rfl, fi rfl (by omega), trivial⟩ rfl⟩
      · rintro w22 a22 ⟨hM2, hs2⟩ F22
        refine plainW (y_not rfl rfl) rfl rfl rfl ⟨F22, hs2⟩ ?_
        clear H21; intro a23 H23
        refine wpListIn_nil ?_
        refine then_n ?_
        refine cnd H23 rfl (fun hc24 => ?_) (fun hc24 => absurd hc24 (by simp))
        refine wp_ret ?_
        refine inb_r ?_
        refine then_r ?_
        refine then_r ?_
        refine inb_r ?_
        refine ret0 rfl H23 ?_
        exact ⟨_, rfl, .inr ⟨k, by omega, hM2, H23.sep⟩⟩
    · skip
      try simp only [decide_eq_true_eq, decide_eq_false_iff_not, Bool.not_eq_true', Bool.not_eq_false', Bool.and_eq_true, Bool.not_eq_true, Bool.not_eq_false] at hc12
      refine wp_exit ?_
      refine then_x ?_
      refine then_x ?_
      refine inb_hit ?_
      -- return 3
      refine end0 rfl H11 ?_
      obtain rfl : k = X.length := by omega
      exact ⟨_, rfl, .inl ⟨hN, H11.sep⟩⟩

end Go.Proofs.YtlhddgkbbdfacaaDoor.C_Ea

set_option linter.unusedVariables false
set_option linter.unusedSimpArgs false
namespace Go.Proofs.YtlhddgkbbdfacaaDoor.C_Fd
open Go.Sx Go.RowKit Go.Proofs.YtlhddgkbbdfacaaDoor.C_Ea

theorem z_zeroN3 : zeroL Tryd.prog 3 = some ((.int .i64 0 :: [])) := by kernel_rfl
theorem z_zeroN4 : zeroL Tryd.prog 4 = some ((.bool false :: [])) := by kernel_rfl
theorem z_zeroN23 : zeroL Tryd.prog 23 = some ((List.replicate 32 (0 : UInt8)).map u8) := by kernel_rfl
theorem z_size23 : sizeB Tryd.prog 23 = some 32 := by kernel_rfl
theorem q_one_b32 {t0 : List UInt8} : (t0.map u8).all (·.oneCell') = true := (one_u8 _)
theorem q_len_b32 {t0 : List UInt8} (h0 : t0.length = 32) : (t0.map u8).length = 32 := (len_e (k := 32) h0)
theorem q_spl_b32_0_b32 {t0 : List UInt8} {s0 : List UInt8} (h0 : t0.length = 32) (g0 : s0.length = 32) : spl (t0.map u8) 0 (s0.map u8) = s0.map u8 := (spl_a (z := 32) (len_e (k := 32) h0) (len_e (k := 32) g0))
theorem z_agg23 : aggB Tryd.prog 23 = some true := by kernel_rfl
theorem q_ld_b32_0_32 {t0 : List UInt8} (h0 : t0.length = 32) : ((t0.map u8).drop 0).take 32 = t0.map u8 := (ld_a (len_e (k := 32) h0))
theorem z_size5 : sizeB Tryd.prog 5 = some 1 := by kernel_rfl
theorem z_size3 : sizeB Tryd.prog 3 = some 1 := by kernel_rfl
theorem q_len_c1 {a0 : Value} : (a0 :: []).length = 1 := (len_c (n := 0) len_n)
theorem q_set_c1_0 {a0 : Value} {v : Value} : (a0 :: []).set 0 v = v :: [] := set_0
theorem z_size4 : sizeB Tryd.prog 4 = some 1 := by kernel_rfl


theorem z_call44 : callB Tryd.prog 44 = true := by kernel_rfl
theorem no_lets2 {K : Act → World → Prop} {K2 : Act → World → Prop} : ¬ LetsOut (Exit.then K (Exit.then K2 fun _ _ _ => False)) := fun ⟨_, _, h⟩ => h
theorem no_lets3 {K : Act → World → Prop} {S : List Nat} {w0 : World} {x : It} {G B : List It → Prop} {id : Nat} : ¬ LetsOut (Exit.then K (Exit.inBlock id (RQ S w0 x G B))) := fun ⟨_, _, h⟩ => h
theorem no_lets4 {K : Act → World → Prop} {S : List Nat} {w0 : World} {x : It} {G B : List It → Prop} {id : Nat} : ¬ LetsOut (Exit.then K (Exit.inBlock id (RQ S w0 x G B))) := fun ⟨_, _, h⟩ => h
theorem z_agg3 : aggB Tryd.prog 3 = some false := by kernel_rfl
theorem z_agg4 : aggB Tryd.prog 4 = some false := by kernel_rfl

set_option maxRecDepth 100000 in
set_option maxHeartbeats 2000000 in
theorem tfindG (pv : Value) (hs : List (List UInt8)) (hH : H32 hs) (h : List UInt8) (hh : h.length = 32) {w : World}
    (hE : ∀ (r : Nat) (I : List It) (N M : Nat → Prop) (Ix : Nat → List It) (w1 : World), N 0 → Sep [] w w1 I →
      (∀ k w', k < hs.length → N k → Sep [] w w' I → YieldAt Fence.wide 0 Tryd.prog r [Value.int .i64 (k : Int), .agg ((hs.getD k []).map u8).toArray].toArray w' fun e W' => (e = .returned (.bool true) ∧ (N (k + 1) ∧ Sep [] w W' I)) ∨ (e = .returned (.bool false) ∧ (M k ∧ Sep [] w W' (Ix k)))) →
      Calls Tryd.prog 44 #[pv, .func (.yield r) #[] #[]] w1 fun e w' => ∃ v, e = .returned v ∧ ((N hs.length ∧ Sep [] w w' I) ∨ ∃ k, k < hs.length ∧ M k ∧ Sep [] w w' (Ix k))) :
    Calls Tryd.prog 29 #[pv, .agg (h.map u8).toArray] w (Gives (.tuple #[.int .i64 (Tree.find hs h).1, .bool (Tree.find hs h).2]) [] w) := by
  have lz32 : (List.replicate 32 (0 : UInt8)).length = 32 := List.length_replicate
  refine enterM (args := [pv, .agg (h.map u8).toArray]) Tryd.func29 rfl rfl (l := []) (Sep.refl _) ?_
  intro a0 H0
  refine wp_seq ?_
  refine reg ?_
  refine st_box rfl rfl (agg_cells _) rfl rfl rfl H0 ?_
  clear H0; intro b1 a1 wx1 H1
  refine st_alloc rfl z_zeroN3 rfl rfl rfl H1 ?_
  clear H1; intro b2 a2 wx2 H2
  refine st_alloc rfl z_zeroN4 rfl rfl rfl H2 ?_
  clear H2; intro b3 a3 wx3 H3
  refine fin ?_
  refine then_n ?_
  refine wp_seq ?_
  refine wp_seq ?_
  refine reg ?_
  refine plain (y_move rfl rfl) rfl rfl rfl H3 ?_
  clear H3; intro a4 H4
  refine plain (y_fn (xs := [.tmp 8]) (ys := []) rfl rfl rfl) rfl rfl rfl H4 ?_
  clear H4; intro a5 H5
  refine fin ?_
  refine then_n ?_
  refine wp_block ?_
  refine rangeW (gf := 44) (recv := pv) (lN := [It.blk b3 4 [.bool false], It.blk b2 3 [.int .i64 0], It.blk b1 23 (h.map u8)]) (GN := ∀ j, j < hs.length → hs.getD j [] ≠ h)
    (GM := fun lM => ∃ k, (k < hs.length ∧ hs.getD k [] = h ∧ ∀ j, j < k → hs.getD j [] ≠ h) ∧ lM = [It.blk b3 4 [.bool true], It.blk b2 3 [.int .i64 (k : Int)], It.blk b1 23 (h.map u8)]) rfl z_call44 H5 ?_ ?_ ?_
  · intro fn r D rc w1 hrc hs1
    refine (hE r _ (fun k => ∀ j, j < k → hs.getD j [] ≠ h) (fun k => hs.getD k [] = h ∧ ∀ j, j < k → hs.getD j [] ≠ h)
      (fun k => [It.obj r (.loop (rc .done (some .ret))), It.obj D (.deferred (some [])), It.blk b3 4 [.bool true], It.blk b2 3 [.int .i64 (k : Int)], It.blk b1 23 (h.map u8)]) w1 (fun j hj => absurd hj (by omega)) hs1 ?_).mono ?_
    · intro k w2 hk hN hs2
      have hhk : (hs.getD k []).length = 32 := hH.getD hk
      refine yield_mono (yield_of (P := Tryd.prog) (args := [Value.int .i64 (k : Int), .agg ((hs.getD k []).map u8).toArray])
        (G := fun lb => (∀ j, j < k + 1 → hs.getD j [] ≠ h) ∧ lb = [It.obj D (.deferred (some [])), It.blk b3 4 [.bool false], It.blk b2 3 [.int .i64 0], It.blk b1 23 (h.map u8)])
        (B := fun lb => (hs.getD k [] = h ∧ ∀ j, j < k → hs.getD j [] ≠ h) ∧ lb = [It.obj D (.deferred (some [])), It.blk b3 4 [.bool true], It.blk b2 3 [.int .i64 (k : Int)], It.blk b1 23 (h.map u8)]) hrc rfl hs2 ?_) ?_
      · have F6 := fr_round (p1 := 10) (p2 := 11) (v1 := .int .i64 (k : Int)) (v2 := .agg ((hs.getD k []).map u8).toArray) H5.fr (by decide) (by decide)
        have H6 := St.mk F6 hs2
        refine wpIn_seq ?_
        refine reg_round no_lets2 rfl ?_
        refine plain (y_assign rfl rfl) rfl rfl rfl H6 ?_
        clear H6; intro a7 H7
        refine fin ?_
        refine then_n ?_
        refine reg_round no_lets1 rfl ?_
        refine st_alloc rfl z_zeroN23 rfl rfl rfl H7 ?_
        clear H7; intro b7 a8 wx8 H8
        refine st_storeN rfl z_size23 rfl rfl (agg_cells _) (by repeat (first | exact Uh | apply Ut)) q_one_b32 (q_len_b32 hhk) (q_len_b32 (by assumption)) (q_spl_b32_0_b32 (by assumption) hhk) (by decide) rfl rfl H8 ?_
        clear H8; intro wx9 H9
        refine fin ?_
        refine then_n ?_
        refine ⟨_, H9.sep.perm (List.Perm.swap _ _ _), ?_⟩
        intro w10 hs10
        have H10 := St.mk H9.fr hs10
        refine wpIn_block ?_
        refine wpIn_seq ?_
        refine reg_round no_lets3 rfl ?_
        refine plain (y_loadAB rfl z_agg23 z_size23 rfl (by repeat (first | exact Mh | apply Mt)) (q_ld_b32_0_32 hhk) (q_len_b32 hhk)) rfl rfl rfl H10 ?_
        clear H10; intro a11 H11
        refine plain (y_loadAB rfl z_agg23 z_size23 rfl (by repeat (first | exact Mh | apply Mt)) (q_ld_b32_0_32 hh) (q_len_b32 hh)) rfl rfl rfl H11 ?_
        clear H11; intro a12 H12
        refine plain (y_heql rfl Tryd.eqGuardType23 Tryd.underlying23 Tryd.underlying5 z_size5 rfl rfl hhk hh) rfl rfl rfl H12 ?_
        clear H12; intro a13 H13
        refine fin ?_
        refine then_n ?_
        by_cases he : hs.getD k [] = h
        · refine wpIn_cond_true (by rw [H13.fr.ev (x := .tmp 14) rfl]; simp only [he, decide_true]) ?_
          refine wpIn_seq ?_
          refine reg_round no_lets4 rfl ?_
          refine plain (y_move rfl rfl) rfl rfl rfl H13 ?_
          clear H13; intro a14 H14
          refine st_store1N rfl z_size3 rfl rfl rfl (by repeat (first | exact Uh | apply Ut)) q_len_c1 q_set_c1_0 (by decide) rfl rfl H14 ?_
          clear H14; intro wx15 H15
          refine st_store1N rfl z_size4 rfl rfl rfl (by repeat (first | exact Uh | apply Ut)) q_len_c1 q_set_c1_0 (by decide) rfl rfl H15 ?_
          clear H15; intro wx16 H16
          refine fin ?_
          refine then_n ?_
          refine wpIn_ret ?_
          refine inb_r ?_
          exact ⟨_, H16.sep.sub (List.Sublist.cons_cons _ (List.sublist_cons_self _ _)), ⟨he, hN⟩, rfl⟩
        · refine wpIn_cond_false (by rw [H13.fr.ev (x := .tmp 14) rfl]; simp only [he, decide_false]) ?_
          refine wpIn_skip ?_
          refine inb_n ?_
          exact ⟨_, H13.sep.sub (List.Sublist.cons_cons _ (List.sublist_cons_self _ _)), fun j hj => by
            by_cases e : j = k
            · subst e; exact he
            · exact hN j (by omega), rfl⟩
      · rintro e W' (⟨rfl, lb, ⟨h1, rfl⟩, h3⟩ | ⟨rfl, lb, ⟨h1, rfl⟩, h3⟩)
        · exact .inl ⟨rfl, h1, h3⟩
        · exact .inr ⟨rfl, h1, h3⟩
    · rintro e w2 ⟨v, rfl, (⟨h1, h2⟩ | ⟨k, hk, h1, h2⟩)⟩
      · exact ⟨v, rfl, .inl ⟨h1, h2⟩⟩
      · exact ⟨v, rfl, .inr ⟨_, ⟨k, ⟨hk, h1⟩, rfl⟩, h2⟩⟩
  · intro D w3 hN hs3
    refine inb_n ?_
    refine then_n ?_
    refine wp_seq ?_
    refine reg_under ?_
    have H7 : St Tryd.f29.ntmps [] w _ _ { tmps := a5.tmps, defers := [] } w3 := ⟨⟨H5.fr.sz, rfl, H5.fr.ok⟩, hs3⟩
    refine st_store1N rfl z_size3 rfl rfl rfl (by repeat (first | exact Uh | apply Ut)) q_len_c1 q_set_c1_0 (by decide) rfl rfl H7 ?_
    clear H7; intro wx8 H8
    refine st_store1N rfl z_size4 rfl rfl rfl (by repeat (first | exact Uh | apply Ut)) q_len_c1 q_set_c1_0 (by decide) rfl rfl H8 ?_
    clear H8; intro wx9 H9
    refine fin ⟨rfl, ?_⟩
    refine then_n ?_
    refine wp_ret ?_
    refine retM H9.sep ?_
    intro w' hs'
    refine ⟨_, run_cc1 (a := { tmps := a5.tmps, defers := [] }) rfl H9.fr.ok hs' rfl z_agg3 (by repeat (first | exact Mh | apply Mt)) rfl z_agg4 (by repeat (first | exact Mh | apply Mt)), ?_⟩
    rw [Tree.find_none hN]
    exact ⟨_, [], rfl, ⟨rfl, rfl⟩, hs'.sub (List.nil_sublist _)⟩
  · rintro D w3 lM ⟨k, ⟨hk, h1, h2⟩, rfl⟩ hs3
    refine inb_r ?_
    refine then_r ?_
    refine retM hs3 ?_
    intro w' hs'
    refine ⟨_, run_cc1 (a := a5) rfl H5.fr.ok hs' rfl z_agg3 (by repeat (first | exact Mh | apply Mt)) rfl z_agg4 (by repeat (first | exact Mh | apply Mt)), ?_⟩
    rw [Tree.find_at hk h1 h2]
    exact ⟨_, [], rfl, ⟨rfl, rfl⟩, hs'.sub (List.nil_sublist _)⟩


theorem tfind (X : List Inbox.BA) (hX : Tree.Wfs X) (h0 : 0 < X.length) (hlen : X.length ≤ 4097) (dp de : Int) (c : Nat) (v u : Value) (h : List UInt8) (hh : h.length = 32) {w : World} (hc_ : (It.blk c 77 [v, u, i64 dp, i64 de]).P w) (hu_ : (It.row 23 32 u X.length (hc (Tree.hashes (Tree.bl X)))).P w) :
    Calls Tryd.prog 29 #[.pointer (some ⟨c, 0, none⟩), .agg (h.map u8).toArray] w (Gives (.tuple #[.int .i64 (Tree.find (Tree.hashes (Tree.bl X)) h).1, .bool (Tree.find (Tree.hashes (Tree.bl X)) h).2]) [] w) := by
  have hl : (Tree.hashes (Tree.bl X)).length = X.length := by rw [Tree.hashes_len, Tree.bl_len]
  refine tfindG _ _ (Tree.hashes_h _) h hh fun r I N M Ix w1 hN hs hY => ?_
  rw [hl] at hY ⊢
  exact teach X hX h0 hlen dp de c v u hc_ hu_ r I N M Ix hN hs hY

end Go.Proofs.YtlhddgkbbdfacaaDoor.C_Fd

set_option linter.unusedVariables false
set_option linter.unusedSimpArgs false
namespace Go.Proofs.YtlhddgkbbdfacaaDoor.C_Aw
open Go.Sx Go.RowKit Go.Proofs.YtlhddgkbbdfacaaDoor.C_Block Go.Proofs.YtlhddgkbbdfacaaDoor.C_Sum Go.Proofs.YtlhddgkbbdfacaaDoor.C_Ref Go.Proofs.YtlhddgkbbdfacaaDoor.C_RSum Go.Proofs.YtlhddgkbbdfacaaDoor.C_Num Go.Proofs.YtlhddgkbbdfacaaDoor.C_Lay Go.Proofs.YtlhddgkbbdfacaaDoor.C_Leaf Go.Proofs.YtlhddgkbbdfacaaDoor.C_Item Go.Proofs.YtlhddgkbbdfacaaDoor.C_RefI Go.Proofs.YtlhddgkbbdfacaaDoor.C_Eq Go.Proofs.YtlhddgkbbdfacaaDoor.C_Hash Go.Proofs.YtlhddgkbbdfacaaDoor.C_Nx Go.Proofs.YtlhddgkbbdfacaaDoor.C_Sm Go.Proofs.YtlhddgkbbdfacaaDoor.C_New Go.Proofs.YtlhddgkbbdfacaaDoor.C_Mine Go.Proofs.YtlhddgkbbdfacaaDoor.C_Ea Go.Proofs.YtlhddgkbbdfacaaDoor.C_Fd

theorem z_call12 : callB Tryd.prog 12 = true := by kernel_rfl
theorem z_call13 : callB Tryd.prog 13 = true := by kernel_rfl
theorem z_zeroN23 : zeroL Tryd.prog 23 = some ((List.replicate 32 (0 : UInt8)).map u8) := by kernel_rfl
theorem z_size23 : sizeB Tryd.prog 23 = some 32 := by kernel_rfl
theorem q_one_b32 {t0 : List UInt8} : (t0.map u8).all (·.oneCell') = true := (one_u8 _)
theorem q_len_b32 {t0 : List UInt8} (h0 : t0.length = 32) : (t0.map u8).length = 32 := (len_e (k := 32) h0)
theorem q_spl_b32_0_b32 {t0 : List UInt8} {s0 : List UInt8} (h0 : t0.length = 32) (g0 : s0.length = 32) : spl (t0.map u8) 0 (s0.map u8) = s0.map u8 := (spl_a (z := 32) (len_e (k := 32) h0) (len_e (k := 32) g0))
theorem z_agg23 : aggB Tryd.prog 23 = some true := by kernel_rfl
theorem q_ld_b32_0_32 {t0 : List UInt8} (h0 : t0.length = 32) : ((t0.map u8).drop 0).take 32 = t0.map u8 := (ld_a (len_e (k := 32) h0))
theorem z_call29 : callB Tryd.prog 29 = true := by kernel_rfl
theorem z_call21 : callB Tryd.prog 21 = true := by kernel_rfl
theorem z_call18 : callB Tryd.prog 18 = true := by kernel_rfl

set_option maxRecDepth 100000 in
set_option maxHeartbeats 4000000 in
theorem awake {w : World} (hG : Glob 0 Sha.K w) : Calls Tryd.prog 11 #[] w (Gives (.bool true) [] w) := by
  have hZl : Note.Z.length = 32 := Note.Z_len
  have lz32 : (List.replicate 32 (0 : UInt8)).length = 32 := List.length_replicate
  refine enterL (args := []) Tryd.func11 rfl rfl (l := []) (Sep.refl _) ?_
  intro a0 H0
  refine wp_seq ?_
  refine reg ?_
  refine plain (y_assign rfl rfl) rfl rfl rfl H0 ?_
  clear H0; intro a1 H1
  refine fin ?_
  refine then_n ?_
  refine wp_seq ?_
  refine reg ?_
  refine st_call rfl z_call12 rfl rfl rfl rfl H1 (tnew 1 (by decide) (hG.frm H1.sep.frm (by simp))) ?_
  clear H1; intro v2 l2 a2 wx2 hf2 H2
  obtain ⟨c, v, u, rfl, rfl⟩ := hf2
  simp only [List.cons_append, List.nil_append] at H2
  refine plain (y_move rfl rfl) rfl rfl rfl H2 ?_
  clear H2; intro a3 H3
  refine plain (y_extract rfl rfl rfl) rfl rfl rfl H3 ?_
  clear H3; intro a4 H4
  refine plain (y_extract rfl rfl rfl) rfl rfl rfl H4 ?_
  clear H4; intro a5 H5
  refine plain (y_assign rfl rfl) rfl rfl rfl H5 ?_
  clear H5; intro a6 H6
  refine plain (y_assign rfl rfl) rfl rfl rfl H6 ?_
  clear H6; intro a7 H7
  refine fin ?_
  refine then_n ?_
  refine wp_seq ?_
  refine wp_seq ?_
  refine reg ?_
  refine plain (y_move rfl rfl) rfl rfl rfl H7 ?_
  clear H7; intro a8 H8
  refine plain (y_neq rfl rfl rfl) rfl rfl rfl H8 ?_
  clear H8; intro a9 H9
  refine plain (y_move rfl rfl) rfl rfl rfl H9 ?_
  clear H9; intro a10 H10
  have H12 := H10.know (d := 13) (v := .bool false) rfl (congrArg Value.bool (decide_eq_false (by decide)))
  clear H10
  refine plain (y_move rfl rfl) rfl rfl rfl H12 ?_
  clear H12; intro a13 H13
  refine plain (y_peql rfl Tryd.underlying33 rfl rfl) rfl rfl rfl H13 ?_
  clear H13; intro a14 H14
  refine plain (y_pick_f rfl rfl rfl) rfl rfl rfl H14 ?_
  clear H14; intro a15 H15
  refine fin ?_
  refine then_n ?_
  refine cnd H15 rfl (fun hc16 => ?_) (fun hc16 => ?_) -- cond 1
  · (try simp only [decide_eq_true_eq, decide_eq_false_iff_not, Bool.not_eq_true', Bool.not_eq_false', Bool.and_eq_true, Bool.not_eq_true, Bool.not_eq_false] at hc16); (exfalso; simp at hc16)
  · skip
    try simp only [decide_eq_true_eq, decide_eq_false_iff_not, Bool.not_eq_true', Bool.not_eq_false', Bool.and_eq_true, Bool.not_eq_true, Bool.not_eq_false] at hc16
    refine wp_skip ?_
    refine then_n ?_
    refine wp_seq ?_
    refine reg ?_
    refine plain (y_move rfl rfl) rfl rfl rfl H15 ?_
    clear H15; intro a17 H17
    refine st_callk2 (is := [It.row 26 35 v [Inbox.BA.zero].length (Inbox.bc [Inbox.BA.zero]), It.row 23 32 u [Inbox.BA.zero].length (hc (Tree.hashes (Tree.bl [Inbox.BA.zero]))), It.blk c 77 [v, u, i64 1, i64 0], (Tree.It.fz [Inbox.BA.zero])]) (enters_call rfl z_call13 rfl) rfl rfl rfl H17 (.cons (by repeat (first | exact Ph | apply Pt)) (.cons (by repeat (first | exact Ph | apply Pt)) (.cons (by repeat (first | exact Ph | apply Pt)) (.cons (by repeat (first | exact Ph | apply Pt)) (.nil _))))) (fun hs => tmine [Inbox.BA.zero] (Tree.Wfs.one Tree.w0_zero) (by decide) (by decide) 1 0 c v u 0 (by decide) none 0 [] (fun _ h => absurd h (by simp)) (by decide) hs (fun _ _ => Rd.nil _ _) (hG.frm H17.sep.frm (by simp)) (fps_new H17.sep (.cons (by repeat (first | exact Ph | apply Pt)) (.cons (by repeat (first | exact Ph | apply Pt)) (.cons (by repeat (first | exact Ph | apply Pt)) (.cons (by repeat (first | exact Ph | apply Pt)) (.nil _))))) hG (by decide))) ?_
    clear H17; intro v18 l18 a18 wx18 hf18 H18
    obtain ⟨X1, v1, u1, ⟨hX1, hW1⟩, rfl, rfl⟩ := hf18
    simp only [List.cons_append, List.nil_append] at H18
    simp only [Tree.aw_mx1] at H18
    have hb1 := Tree.aw_x1 hX1
    have hl1 := Tree.aw_l1 hb1
    refine plain (y_move rfl rfl) rfl rfl rfl H18 ?_
    clear H18; intro a19 H19
    refine plain (y_extract rfl rfl rfl) rfl rfl rfl H19 ?_
    clear H19; intro a20 H20
    refine plain (y_extract rfl rfl rfl) rfl rfl rfl H20 ?_
    clear H20; intro a21 H21
    refine st_alloc rfl z_zeroN23 rfl rfl rfl H21 ?_
    clear H21; intro b22 a22 wx22 H22
    refine st_storeN rfl z_size23 rfl rfl (agg_cells _) (by repeat (first | exact Uh | apply Ut)) q_one_b32 (q_len_b32 (by first | assumption | exact Tree.hash_len _)) (q_len_b32 (by first | assumption | exact Tree.hash_len _)) (q_spl_b32_0_b32 (by first | assumption | exact Tree.hash_len _) (by first | assumption | exact Tree.hash_len _)) (by decide) rfl rfl H22 ?_
    clear H22; intro wx23 H23
    refine plain (y_assign rfl rfl) rfl rfl rfl H23 ?_
    clear H23; intro a24 H24
    refine fin ?_
    refine then_n ?_
    refine wp_seq ?_
    refine reg ?_
    refine plain (y_move rfl rfl) rfl rfl rfl H24 ?_
    clear H24; intro a25 H25
    refine st_callk2 (is := [It.row 26 35 v1 X1.length (Inbox.bc X1), It.row 23 32 u1 X1.length (hc (Tree.hashes (Tree.bl X1))), It.blk c 77 [v1, u1, i64 1, i64 0], (Tree.It.fz X1)]) (enters_call rfl z_call13 rfl) rfl rfl rfl H25 (.cons (by repeat (first | exact Ph | apply Pt)) (.cons (by repeat (first | exact Ph | apply Pt)) (.cons (by repeat (first | exact Ph | apply Pt)) (.cons (by repeat (first | exact Ph | apply Pt)) (.nil _))))) (fun hs => tmine X1 hW1 (by omega) (by omega) 1 0 c v1 u1 0 (by decide) none 0 [] (fun _ h => absurd h (by simp)) (by decide) hs (fun _ _ => Rd.nil _ _) (hG.frm H25.sep.frm (by simp)) (fps_new H25.sep (.cons (by repeat (first | exact Ph | apply Pt)) (.cons (by repeat (first | exact Ph | apply Pt)) (.cons (by repeat (first | exact Ph | apply Pt)) (.cons (by repeat (first | exact Ph | apply Pt)) (.nil _))))) hG (by decide))) ?_
    clear H25; intro v26 l26 a26 wx26 hf26 H26
    obtain ⟨X2, v2, u2, ⟨hX2, hW2⟩, rfl, rfl⟩ := hf26
    simp only [List.cons_append, List.nil_append] at H26
    have hb2 := Tree.aw_x2 hb1 hX2
    have hl2 := Tree.aw_l2 hb2
    have hfi := Tree.aw_fin hb2
    refine fin ?_
    refine then_n ?_
    refine wp_seq ?_
    refine reg ?_
    refine plain (y_move rfl rfl) rfl rfl rfl H26 ?_
    clear H26; intro a27 H27
    refine plain (y_loadAB rfl z_agg23 z_size23 rfl (by repeat (first | exact Mh | apply Mt)) (q_ld_b32_0_32 (by first | assumption | exact Tree.hash_len _)) (q_len_b32 (by first | assumption | exact Tree.hash_len _))) rfl rfl rfl H27 ?_
    clear H27; intro a28 H28
    refine st_callg rfl z_call29 rfl rfl rfl rfl H28 (tfind X2 hW2 (by omega) (by omega) 1 0 c v2 u2 (Tree.hash Tree.awB1).1 (Tree.hash_len _) (H28.sep.all _ (by repeat (first | exact Mh | apply Mt))) (H28.sep.all _ (by repeat (first | exact Mh | apply Mt)))) ?_
    clear H28; intro a29 wx29 H29
    refine plain (y_move rfl rfl) rfl rfl rfl H29 ?_
    clear H29; intro a30 H30
    simp only [Tree.aw_fd hb2] at H30
    refine plain (y_extract rfl rfl rfl) rfl rfl rfl H30 ?_
    clear H30; intro a31 H31
    refine plain (y_extract rfl rfl rfl) rfl rfl rfl H31 ?_
    clear H31; intro a32 H32
    refine plain (y_assign rfl rfl) rfl rfl rfl H32 ?_
    clear H32; intro a33 H33
    refine plain (y_assign rfl rfl) rfl rfl rfl H33 ?_
    clear H33; intro a34 H34
    refine fin ?_
    refine then_n ?_
    refine wp_seq ?_
    refine reg ?_
    refine plain (y_move rfl rfl) rfl rfl rfl H34 ?_
    clear H34; intro a35 H35
    refine plain (y_eql rfl rfl rfl) rfl rfl rfl H35 ?_
    clear H35; intro a36 H36
    refine plain (y_move rfl rfl) rfl rfl rfl H36 ?_
    clear H36; intro a37 H37
    have H39 := H37.know (d := 32) (v := .bool true) rfl ((by first | rfl | exact congrArg Value.bool (decide_eq_true (by first | decide | omega))))
    clear H37
    refine plain (y_move rfl rfl) rfl rfl rfl H39 ?_
    clear H39; intro a40 H40
    refine plain (y_eql rfl rfl rfl) rfl rfl rfl H40 ?_
    clear H40; intro a41 H41
    refine plain (y_pick_t rfl rfl rfl) rfl rfl rfl H41 ?_
    clear H41; intro a42 H42
    refine plain (y_move rfl rfl) rfl rfl rfl H42 ?_
    clear H42; intro a43 H43
    have H45 := H43.know (d := 36) (v := .bool true) rfl ((by first | rfl | exact congrArg Value.bool (decide_eq_true (by first | decide | omega))))
    clear H43
    refine plain (y_move rfl rfl) rfl rfl rfl H45 ?_
    clear H45; intro a46 H46
    refine plain (y_pick_t rfl rfl rfl) rfl rfl rfl H46 ?_
    clear H46; intro a47 H47
    refine plain (y_move rfl rfl) rfl rfl rfl H47 ?_
    clear H47; intro a48 H48
    have H50 := H48.know (d := 39) (v := .bool true) rfl ((by first | rfl | exact congrArg Value.bool (decide_eq_true (by first | decide | omega))))
    clear H48
    refine plain (y_move rfl rfl) rfl rfl rfl H50 ?_
    clear H50; intro a51 H51
    refine st_callg rfl z_call21 rfl rfl rfl rfl H51 (theight X2 hW2 (by omega) (by omega) 1 0 c v2 u2 (H51.sep.all _ (by repeat (first | exact Mh | apply Mt))) (H51.sep.all _ (by repeat (first | exact Mh | apply Mt)))) ?_
    clear H51; intro a52 wx52 H52
    refine plain (y_eql rfl rfl rfl) rfl rfl rfl H52 ?_
    clear H52; intro a53 H53
    refine plain (y_pick_t rfl rfl rfl) rfl rfl rfl H53 ?_
    clear H53; intro a54 H54
    refine plain (y_move rfl rfl) rfl rfl rfl H54 ?_
    clear H54; intro a55 H55
    have H57 := H55.know (d := 44) (v := .bool true) rfl ((by first | rfl | exact congrArg Value.bool (decide_eq_true (by first | decide | omega))))
    clear H55
    refine plain (y_move rfl rfl) rfl rfl rfl H57 ?_
    clear H57; intro a58 H58
    refine st_callg rfl z_call18 rfl rfl rfl rfl H58 (tfinal X2 hW2 (by omega) (by omega) 1 0 c v2 u2 (by decide) (by decide) (H58.sep.all _ (by repeat (first | exact Mh | apply Mt))) (H58.sep.all _ (by repeat (first | exact Mh | apply Mt)))) ?_
    clear H58; intro a59 wx59 H59
    simp only [hfi] at H59
    refine plain (y_eql rfl rfl rfl) rfl rfl rfl H59 ?_
    clear H59; intro a60 H60
    refine plain (y_pick_t rfl rfl rfl) rfl rfl rfl H60 ?_
    clear H60; intro a61 H61
    refine plain (y_assign rfl rfl) rfl rfl rfl H61 ?_
    clear H61; intro a62 H62
    refine fin ?_
    refine then_n ?_
    refine wp_ret ?_
    -- return 1
    refine ret1 rfl H62 rfl ?_
    exact ⟨_, [], rfl, ⟨by first | rfl | exact congrArg Value.bool (decide_eq_true (by first | decide | omega)), rfl⟩, H62.sep.sub (List.nil_sublist _)⟩

end Go.Proofs.YtlhddgkbbdfacaaDoor.C_Aw

set_option linter.unusedVariables false
set_option linter.unusedSimpArgs false
namespace Go.Proofs.YtlhddgkbbdfacaaDoor.C_L1
open Go.Sx Go.RowKit Go.Proofs.YtlhddgkbbdfacaaDoor.C_Block Go.Proofs.YtlhddgkbbdfacaaDoor.C_Sum Go.Proofs.YtlhddgkbbdfacaaDoor.C_Ref Go.Proofs.YtlhddgkbbdfacaaDoor.C_RSum Go.Proofs.YtlhddgkbbdfacaaDoor.C_Num Go.Proofs.YtlhddgkbbdfacaaDoor.C_Lay Go.Proofs.YtlhddgkbbdfacaaDoor.C_Leaf Go.Proofs.YtlhddgkbbdfacaaDoor.C_Item Go.Proofs.YtlhddgkbbdfacaaDoor.C_RefI Go.Proofs.YtlhddgkbbdfacaaDoor.C_Eq Go.Proofs.YtlhddgkbbdfacaaDoor.C_Hash Go.Proofs.YtlhddgkbbdfacaaDoor.C_Nx Go.Proofs.YtlhddgkbbdfacaaDoor.C_Sm Go.Proofs.YtlhddgkbbdfacaaDoor.C_Aw

theorem z_agg26 : aggB Tryd.prog 26 = some true := by kernel_rfl
theorem z_size26 : sizeB Tryd.prog 26 = some 35 := by kernel_rfl
theorem q_ld_c2b32c1_0_35 {a0 a1 a3 : Value} {t2 : List UInt8} (h2 : t2.length = 32) : ((a0 :: a1 :: (t2.map u8 ++ (a3 :: []))).drop 0).take 35 = a0 :: a1 :: (t2.map u8 ++ (a3 :: [])) := (ld_a (len_c (n := 34) (len_c (n := 33) (len_b (k := 32) (n := 1) h2 (len_c (n := 0) len_n)))))
theorem q_len_c2b32c1 {a0 a1 a3 : Value} {t2 : List UInt8} (h2 : t2.length = 32) : (a0 :: a1 :: (t2.map u8 ++ (a3 :: []))).length = 35 := (len_c (n := 34) (len_c (n := 33) (len_b (k := 32) (n := 1) h2 (len_c (n := 0) len_n))))
theorem z_call9 : callB Tryd.prog 9 = true := by kernel_rfl
theorem z_zeroN23 : zeroL Tryd.prog 23 = some ((List.replicate 32 (0 : UInt8)).map u8) := by kernel_rfl
theorem z_size23 : sizeB Tryd.prog 23 = some 32 := by kernel_rfl
theorem q_one_b32 {t0 : List UInt8} : (t0.map u8).all (·.oneCell') = true := (one_u8 _)
theorem q_len_b32 {t0 : List UInt8} (h0 : t0.length = 32) : (t0.map u8).length = 32 := (len_e (k := 32) h0)
theorem q_spl_b32_0_b32 {t0 : List UInt8} {s0 : List UInt8} (h0 : t0.length = 32) (g0 : s0.length = 32) : spl (t0.map u8) 0 (s0.map u8) = s0.map u8 := (spl_a (z := 32) (len_e (k := 32) h0) (len_e (k := 32) g0))
theorem z_call10 : callB Tryd.prog 10 = true := by kernel_rfl
theorem z_call11 : callB Tryd.prog 11 = true := by kernel_rfl
theorem z_agg23 : aggB Tryd.prog 23 = some true := by kernel_rfl
theorem q_ld_b32_0_32 {t0 : List UInt8} (h0 : t0.length = 32) : ((t0.map u8).drop 0).take 32 = t0.map u8 := (ld_a (len_e (k := 32) h0))
theorem z_size5 : sizeB Tryd.prog 5 = some 1 := by kernel_rfl

set_option maxRecDepth 100000 in
set_option maxHeartbeats 2000000 in
theorem treeHashes (x : Inbox.BA) (wx : Tree.W0 x) (hl : x.b.items.length ≤ 9223372036854775807) {w : World} (hR : Rd w x.A (Inbox.ic x.b.items)) (hG : Glob 0 Sha.K w) : Calls Tryd.prog 3 #[.agg (Inbox.BA.cells x).toArray] w (Gives (.bool true) [] w) := by
  have hZl : Note.Z.length = 32 := Note.Z_len
  have lz32 : (List.replicate 32 (0 : UInt8)).length = 32 := List.length_replicate
  have lz0 := wx.parent
  refine enterL (args := [.agg (Inbox.BA.cells x).toArray]) Tryd.func3 rfl rfl (l := []) (Sep.refl _) ?_
  intro a0 H0
  refine wp_seq ?_
  refine reg ?_
  refine st_box rfl rfl (agg_cells _) rfl rfl rfl H0 ?_
  clear H0; intro b1 a1 wx1 H1
  refine plain (y_assign rfl rfl) rfl rfl rfl H1 ?_
  clear H1; intro a2 H2
  refine fin ?_
  refine then_n ?_
  refine wp_seq ?_
  refine reg ?_
  refine plain (y_loadAB rfl z_agg26 z_size26 rfl (by repeat (first | exact Mh | apply Mt)) (q_ld_c2b32c1_0_35 (by first | assumption | exact Tree.hash_len _)) (q_len_c2b32c1 (by first | assumption | exact Tree.hash_len _))) rfl rfl rfl H2 ?_
  clear H2; intro a3 H3
  refine st_callg rfl z_call9 rfl rfl rfl rfl H3 (thash x wx hl (Rd.frm hR H3.sep.frm (by simp)) (hG.frm H3.sep.frm (by simp))) ?_
  clear H3; intro a4 wx4 H4
  refine plain (y_move rfl rfl) rfl rfl rfl H4 ?_
  clear H4; intro a5 H5
  refine plain (y_extract rfl rfl rfl) rfl rfl rfl H5 ?_
  clear H5; intro a6 H6
  refine plain (y_extract rfl rfl rfl) rfl rfl rfl H6 ?_
  clear H6; intro a7 H7
  refine st_alloc rfl z_zeroN23 rfl rfl rfl H7 ?_
  clear H7; intro b8 a8 wx8 H8
  refine st_storeN rfl z_size23 rfl rfl (agg_cells _) (by repeat (first | exact Uh | apply Ut)) q_one_b32 (q_len_b32 (by first | assumption | exact Tree.hash_len _)) (q_len_b32 (by first | assumption | exact Tree.hash_len _)) (q_spl_b32_0_b32 (by first | assumption | exact Tree.hash_len _) (by first | assumption | exact Tree.hash_len _)) (by decide) rfl rfl H8 ?_
  clear H8; intro wx9 H9
  refine plain (y_assign rfl rfl) rfl rfl rfl H9 ?_
  clear H9; intro a10 H10
  refine fin ?_
  refine then_n ?_
  refine wp_seq ?_
  refine reg ?_
  refine plain (y_loadAB rfl z_agg26 z_size26 rfl (by repeat (first | exact Mh | apply Mt)) (q_ld_c2b32c1_0_35 (by first | assumption | exact Tree.hash_len _)) (q_len_c2b32c1 (by first | assumption | exact Tree.hash_len _))) rfl rfl rfl H10 ?_
  clear H10; intro a11 H11
  refine st_callg rfl z_call10 rfl rfl rfl rfl H11 (rthash x wx hl (Rd.frm hR H11.sep.frm (by simp))) ?_
  clear H11; intro a12 wx12 H12
  refine plain (y_move rfl rfl) rfl rfl rfl H12 ?_
  clear H12; intro a13 H13
  refine plain (y_extract rfl rfl rfl) rfl rfl rfl H13 ?_
  clear H13; intro a14 H14
  refine plain (y_extract rfl rfl rfl) rfl rfl rfl H14 ?_
  clear H14; intro a15 H15
  refine st_alloc rfl z_zeroN23 rfl rfl rfl H15 ?_
  clear H15; intro b16 a16 wx16 H16
  refine st_storeN rfl z_size23 rfl rfl (agg_cells _) (by repeat (first | exact Uh | apply Ut)) q_one_b32 (q_len_b32 (by first | assumption | exact Tree.hash_len _)) (q_len_b32 (by first | assumption | exact Tree.hash_len _)) (q_spl_b32_0_b32 (by first | assumption | exact Tree.hash_len _) (by first | assumption | exact Tree.hash_len _)) (by decide) rfl rfl H16 ?_
  clear H16; intro wx17 H17
  refine plain (y_assign rfl rfl) rfl rfl rfl H17 ?_
  clear H17; intro a18 H18
  refine fin ?_
  refine then_n ?_
  refine wp_seq ?_
  refine reg ?_
  refine st_callg rfl z_call11 rfl rfl rfl rfl H18 (awake (hG.frm H18.sep.frm (by simp))) ?_
  clear H18; intro a19 wx19 H19
  refine plain (y_move rfl rfl) rfl rfl rfl H19 ?_
  clear H19; intro a20 H20
  have H22 := H20.know (d := 18) (v := .bool true) rfl ((by first | rfl | exact congrArg Value.bool (decide_eq_true (by first | assumption | rfl | decide | omega))))
  clear H20
  refine plain (y_loadAB rfl z_agg23 z_size23 rfl (by repeat (first | exact Mh | apply Mt)) (q_ld_b32_0_32 (by first | assumption | exact Tree.hash_len _)) (q_len_b32 (by first | assumption | exact Tree.hash_len _))) rfl rfl rfl H22 ?_
  clear H22; intro a23 H23
  refine plain (y_loadAB rfl z_agg23 z_size23 rfl (by repeat (first | exact Mh | apply Mt)) (q_ld_b32_0_32 (by first | assumption | exact Tree.hash_len _)) (q_len_b32 (by first | assumption | exact Tree.hash_len _))) rfl rfl rfl H23 ?_
  clear H23; intro a24 H24
  refine plain (y_heql rfl Tryd.eqGuardType23 Tryd.underlying23 Tryd.underlying5 z_size5 rfl rfl (by first | assumption | exact Tree.hash_len _) (by first | assumption | exact Tree.hash_len _)) rfl rfl rfl H24 ?_
  clear H24; intro a25 H25
  refine plain (y_pick_t rfl rfl rfl) rfl rfl rfl H25 ?_
  clear H25; intro a26 H26
  refine plain (y_move rfl rfl) rfl rfl rfl H26 ?_
  clear H26; intro a27 H27
  have H29 := H27.know (d := 23) (v := .bool true) rfl ((by first | rfl | exact congrArg Value.bool (decide_eq_true (by first | assumption | rfl | decide | omega))))
  clear H27
  refine plain (y_move rfl rfl) rfl rfl rfl H29 ?_
  clear H29; intro a30 H30
  refine plain (y_move rfl rfl) rfl rfl rfl H30 ?_
  clear H30; intro a31 H31
  refine plain (y_eql rfl rfl rfl) rfl rfl rfl H31 ?_
  clear H31; intro a32 H32
  refine plain (y_pick_t rfl rfl rfl) rfl rfl rfl H32 ?_
  clear H32; intro a33 H33
  refine plain (y_assign rfl rfl) rfl rfl rfl H33 ?_
  clear H33; intro a34 H34
  refine fin ?_
  refine then_n ?_
  refine wp_ret ?_
  -- return 1
  refine ret1 rfl H34 rfl ?_
  exact ⟨_, [], rfl, ⟨by first | rfl | exact congrArg Value.bool (decide_eq_true (by first | assumption | rfl | decide | omega)), rfl⟩, H34.sep.sub (List.nil_sublist _)⟩

end Go.Proofs.YtlhddgkbbdfacaaDoor.C_L1

set_option linter.unusedVariables false
set_option linter.unusedSimpArgs false
namespace Go.Proofs.YtlhddgkbbdfacaaDoor.C_Rd
open Go.Sx Go.RowKit

theorem rd_Item {H : Type} {enc : TypeId × Value → H} {W : World} {sp : Nat → Bool} {held : Bool} {cs : List Value} (h : Trw enc Tryd.prog W sp held 69 cs) : ∃ (x : Note.Item), cs = Note.Item.cells x ∧ Note.Item.Wf x := by
  have hp := h.pieces Tryd.underlying69 [1, 1, 1, 1] (by kernel_rfl)
  obtain ⟨v0, e0, w0⟩ := (h.field Tryd.underlying69 0 rfl (o := 0) rfl (T := 3) rfl (k := 1) (by kernel_rfl)).i64 Tryd.underlying3
  obtain ⟨v1, e1, w1⟩ := (h.field Tryd.underlying69 1 rfl (o := 1) rfl (T := 3) rfl (k := 1) (by kernel_rfl)).i64 Tryd.underlying3
  obtain ⟨v2, e2, w2⟩ := (h.field Tryd.underlying69 2 rfl (o := 2) rfl (T := 3) rfl (k := 1) (by kernel_rfl)).i64 Tryd.underlying3
  obtain ⟨v3, e3, w3⟩ := (h.field Tryd.underlying69 3 rfl (o := 3) rfl (T := 9) rfl (k := 1) (by kernel_rfl)).str Tryd.underlying9
  refine ⟨⟨v0, v1, v2, v3⟩, ?_, w0, w1, w2, w3⟩
  rw [hp]
  simp only [Sx.pieces, Nat.zero_add, Nat.reduceAdd, e0, e1, e2, e3]
  first | rfl | simp [Note.Item.cells]
theorem rd_BA {H : Type} {enc : TypeId × Value → H} {W : World} {sp : Nat → Bool} {held : Bool} {cs : List Value} (h : Trw enc Tryd.prog W sp held 26 cs) : ∃ (x : Inbox.BA), cs = Inbox.BA.cells x ∧ (Tree.W0 x ∧ Rd W x.A (Inbox.ic x.b.items)) := by
  have hp := h.pieces Tryd.underlying26 [1, 1, 32, 1] (by kernel_rfl)
  obtain ⟨v0, e0, w0⟩ := (h.field Tryd.underlying26 0 rfl (o := 0) rfl (T := 3) rfl (k := 1) (by kernel_rfl)).i64 Tryd.underlying3
  obtain ⟨v1, e1, w1⟩ := (h.field Tryd.underlying26 1 rfl (o := 1) rfl (T := 3) rfl (k := 1) (by kernel_rfl)).i64 Tryd.underlying3
  obtain ⟨v2, e2, w2⟩ := (h.field Tryd.underlying26 2 rfl (o := 2) rfl (T := 23) rfl (k := 32) (by kernel_rfl)).bytes Tryd.underlying23 Tryd.underlying5 (by kernel_rfl) (by kernel_rfl)
  obtain ⟨A3, m3, c3, e3, hmc3, hm3, rows3, hr3, hR3, hrow3⟩ := (h.field Tryd.underlying26 3 rfl (o := 34) rfl (T := 24) rfl (k := 1) (by kernel_rfl)).sliceC Tryd.underlying24 (by rw [show Tryd.prog.cellsOf 69 = 4 by kernel_rfl]; decide)
  obtain ⟨v3, rfl, w3⟩ := rows_map (f := Note.Item.cells) (rows := rows3) (fun r hr => rd_Item (hrow3 r hr).2)
  simp only [List.length_map] at hr3
  subst hr3
  have hby3 := (h.field Tryd.underlying26 3 rfl (o := 34) rfl (T := 24) rfl (k := 1) (by kernel_rfl)).sliceB Tryd.underlying24 e3
  rw [show Tryd.prog.bytesOf 69 = 40 by kernel_rfl] at hby3
  unfold reachBytes at hby3
  refine ⟨⟨⟨v0, v1, v2, v3⟩, A3, c3⟩, ?_, ⟨w0, w1, w2, w3, by show v3.length * 40 ≤ _; omega⟩, hR3⟩
  rw [hp]
  simp only [Sx.pieces, Nat.zero_add, Nat.reduceAdd, e0, e1, e2, e3]
  first | rfl | simp [Inbox.BA.cells]
end Go.Proofs.YtlhddgkbbdfacaaDoor.C_Rd
