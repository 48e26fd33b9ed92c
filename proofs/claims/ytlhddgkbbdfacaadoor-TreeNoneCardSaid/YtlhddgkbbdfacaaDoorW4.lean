/- Part of a proof about given Go functions: contracts of functions, or plain laws. -/
import Derived.Test.YtlhddgkbbdfacaaDoorS7
import Derived.Test.YtlhddgkbbdfacaaDoorS6
import Derived.Test.YtlhddgkbbdfacaaDoorS2
import Derived.Test.YtlhddgkbbdfacaaDoorS4
import Derived.Test.YtlhddgkbbdfacaaDoorS3
import Derived.Test.YtlhddgkbbdfacaaDoorS1
import Derived.Test.YtlhddgkbbdfacaaDoorS8
import Derived.Test.YtlhddgkbbdfacaaDoorProg
import Derived.Test.YtlhddgkbbdfacaaDoorW1
import Derived.Test.YtlhddgkbbdfacaaDoorW2
import Derived.Test.YtlhddgkbbdfacaaDoorW3
set_option linter.unusedVariables false
set_option linter.unusedSimpArgs false
namespace Go.Proofs.YtlhddgkbbdfacaaDoor.C_Ea
open Go.Sx Go.RowKit Go.Proofs.YtlhddgkbbdfacaaDoor.C_Hash Go.Proofs.YtlhddgkbbdfacaaDoor.C_Nx Go.Proofs.YtlhddgkbbdfacaaDoor.C_Sm

theorem z_field77_1 : fieldB Tryd.prog 77 1 = some 1 := by kernel_rfl
theorem z_agg75 : aggB Tryd.prog 75 = some false := by kernel_rfl
theorem z_size23 : sizeB Tryd.prog 23 = some 32 := by kernel_rfl
theorem z_agg23 : aggB Tryd.prog 23 = some true := by kernel_rfl
theorem z_zeroN23 : zeroL Tryd.prog 23 = some ((List.replicate 32 (0 : UInt8)).map u8) := by kernel_rfl
theorem q_one_b32 {t0 : List UInt8} : (t0.map u8).all (·.oneCell') = true := (one_u8 _)
theorem q_len_b32 {t0 : List UInt8} (h0 : t0.length = 32) : (t0.map u8).length = 32 := (len_e (k := 32) h0)
theorem q_spl_b32_0_b32 {t0 : List UInt8} {s0 : List UInt8} (h0 : t0.length = 32) (g0 : s0.length = 32) : spl (t0.map u8) 0 (s0.map u8) = s0.map u8 := (spl_a (z := 32) (len_e (k := 32) h0) (len_e (k := 32) g0))
theorem q_ld_b32_0_32 {t0 : List UInt8} (h0 : t0.length = 32) : ((t0.map u8).drop 0).take 32 = t0.map u8 := (ld_a (len_e (k := 32) h0))

set_option maxRecDepth 100000 in
set_option maxHeartbeats 1000000 in
theorem enterB {P : Program} {S : List Nat} {w0 : World} {f : FuncId} {fn : Func} {c : Code} {args : List Value} {w : World} {R : Ending → World → Prop} (hf : P.funcs[f]? = some fn) (hb : fn.body = some c) (hn : Nat.ble args.length fn.ntmps = true) {l : List It} (hS : Sep S w0 w l)
    (h : ∀ a, St fn.ntmps S w0 (slots 0 args) l a w → c.wp P (bodyPost P fn R) a w) : Calls P f args.toArray w R := by
  refine calls_of_wp hf hb (h _ ⟨⟨?_, rfl, fun t v ht => ?_⟩, hS⟩)
  · have := Nat.le_of_ble_eq_true hn
    simp
    omega
  · have h1 := (find_slots args 0 t v ht).2
    have h2 : t < args.length := (List.getElem?_eq_some_iff.1 (by simpa using h1)).1
    show (args.toArray ++ _)[t]? = some v
    rw [Array.getElem?_append_left (by simpa using h2)]
    simpa using h1

set_option maxRecDepth 100000 in
set_option maxHeartbeats 1000000 in
theorem teach (X : List Inbox.BA) (hX : Tree.Wfs X) (h0 : 0 < X.length) (hlen : X.length ≤ 4097) (dp de : Int) (c : Nat) (v u : Value) {w0 : World} (hc_ : (It.blk c 77 [v, u, i64 dp, i64 de]).P w0) (hu_ : (It.row 23 32 u X.length (hc (Tree.hashes (Tree.bl X)))).P w0) (r : Nat) (I : List It) (N M : Nat → Prop) (Ix : Nat → List It) (hN0 : N 0) {w : World} (hs : Sep [] w0 w I)
    (hY : ∀ k w', k < X.length → N k → Sep [] w0 w' I → YieldAt Fence.wide 0 Tryd.prog r [Value.int .i64 (k : Int), .agg (((Tree.hashes (Tree.bl X)).getD k []).map u8).toArray].toArray w' fun e W' => (e = .returned (.bool true) ∧ (N (k + 1) ∧ Sep [] w0 W' I)) ∨ (e = .returned (.bool false) ∧ (M k ∧ Sep [] w0 W' (Ix k)))) :
    Calls Tryd.prog 44 #[.pointer (some ⟨c, 0, none⟩), .func (.yield r) #[] #[]] w fun e w' => ∃ v, e = .returned v ∧ ((N X.length ∧ Sep [] w0 w' I) ∨ ∃ k, k < X.length ∧ M k ∧ Sep [] w0 w' (Ix k)) := by
  obtain ⟨A2, c2, rfl, hRu, hmu⟩ := Row.rd hu_
  have lz32 : (List.replicate 32 (0 : UInt8)).length = 32 := List.length_replicate
  refine enterB (args := [.pointer (some ⟨c, 0, none⟩), .func (.yield r) #[] #[]]) Tryd.func44 rfl rfl (l := I) hs ?_
  intro a0 H0
  refine wp_seq ?_
  refine wp_seq ?_
  refine reg ?_
  refine plain (y_move rfl rfl) rfl rfl rfl H0 ?_
  clear H0; intro a1 H1
  refine plain (y_peql rfl Tryd.underlying33 rfl rfl) rfl rfl rfl H1 ?_
  clear H1; intro a2 H2
  refine fin ?_
  refine then_n ?_
  refine cnd H2 rfl (fun hc3 => ?_) (fun hc3 => ?_) -- cond 1
  · exact absurd hc3 (by simp)
  · skip
    try simp only [decide_eq_true_eq, decide_eq_false_iff_not, Bool.not_eq_true', Bool.not_eq_false', Bool.and_eq_true, Bool.not_eq_true, Bool.not_eq_false] at hc3
    refine wp_skip ?_
    refine then_n ?_
    refine wp_seq ?_
    refine reg ?_
    refine plain (y_move rfl rfl) rfl rfl rfl H2 ?_
    clear H2; intro a4 H4
    refine plain (y_nilCheck rfl rfl) rfl rfl rfl H4 ?_
    clear H4; intro a5 H5
    refine plain (y_fieldB rfl z_field77_1 rfl (by first | (simp only [Nat.zero_add, Nat.add_zero, Nat.reduceAdd]; rfl) | rfl)) rfl rfl rfl H5 ?_
    clear H5; intro a6 H6
    refine plain (y_loadO rfl z_agg75 rfl (blk_cell hc_ (by rfl)) (by simp)) rfl rfl rfl H6 ?_
    clear H6; intro a7 H7
    refine plain (y_len rfl Tryd.underlying75 rfl) rfl rfl rfl H7 ?_
    clear H7; intro a8 H8
    refine plain (y_move rfl rfl) rfl rfl rfl H8 ?_
    clear H8; intro a9 H9
    refine fin ?_
    refine then_n ?_
    refine wp_block ?_
    refine loop (ι := Nat) (fun k => [(0, .pointer (some ⟨c, 0, none⟩)), (1, .func (.yield r) #[] #[]), (11, .slice A2 X.length c2), (12, .int .i64 (X.length : Int)), (13, .int .i64 (k : Int))]) (fun k => I) (fun k => k ≤ X.length ∧ N k) (fun k => X.length - k) (0) ⟨Nat.zero_le _, hN0⟩ (H9.weak ⟨rfl, rfl, rfl, rfl, rfl, trivial⟩ rfl) ?_
    clear H9; intro k a10 wx10 hok10 H10
    obtain ⟨hk, hN⟩ := hok10
    refine wp_seq ?_
    refine reg ?_
    refine plain (y_lss rfl rfl rfl) rfl rfl rfl H10 ?_
    clear H10; intro a11 H11
    refine fin ?_
    refine then_n ?_
    refine wp_seq ?_
    refine cnd H11 rfl (fun hc12 => ?_) (fun hc12 => ?_) -- cond 2
    · skip
      try simp only [decide_eq_true_eq, decide_eq_false_iff_not, Bool.not_eq_true', Bool.not_eq_false', Bool.and_eq_true, Bool.not_eq_true, Bool.not_eq_false] at hc12
      have hhl : ((Tree.hashes (Tree.bl X)).getD k []).length = 32 := (Tree.hashes_h _).getD (by rw [Tree.hashes_len, Tree.bl_len]; omega)
      refine wp_skip ?_
      refine then_n ?_
      refine wp_seq ?_
      refine wp_block ?_
      refine wp_seq ?_
      refine reg ?_
      refine plain (y_move rfl rfl) rfl rfl rfl H11 ?_
      clear H11; intro a13 H13
      refine plain (y_ixR rfl Tryd.underlying75 z_size23 rfl rfl (by omega) (by omega) (rd_old hRu (by simp)) (by rw [Tree.hc_hs]; omega)) rfl rfl rfl H13 ?_
      clear H13; intro a14 H14
      refine plain (y_loadAS rfl z_agg23 z_size23 rfl (rd_old hRu (by simp)) (show _ = ((Tree.hashes (Tree.bl X)).getD k []).map u8 from hc_take _ (Tree.hashes_h _) (by rw [Tree.hashes_len, Tree.bl_len]; omega)) (by rw [List.length_map]; exact (Tree.hashes_h _).getD (by rw [Tree.hashes_len, Tree.bl_len]; omega)) (by decide)) rfl rfl rfl H14 ?_
      clear H14; intro a15 H15
      refine st_alloc rfl z_zeroN23 rfl rfl rfl H15 ?_
      clear H15; intro b16 a16 wx16 H16
      refine plain (y_assign rfl rfl) rfl rfl rfl H16 ?_
      clear H16; intro a17 H17
      refine st_storeN rfl z_size23 rfl rfl (agg_cells _) (by repeat (first | exact Uh | apply Ut)) q_one_b32 (q_len_b32 (by first | assumption | exact hhl)) (q_len_b32 (by first | assumption | exact hhl)) (q_spl_b32_0_b32 (by first | assumption | exact hhl) (by first | assumption | exact hhl)) (by decide) rfl rfl H17 ?_
      clear H17; intro wx18 H18
      refine fin ?_
      refine then_n ?_
      refine wp_seq ?_
      refine reg_wide ?_
      refine plainW (y_move rfl rfl) rfl rfl rfl H18 ?_
      clear H18; intro a19 H19
      refine plainW (y_move rfl rfl) rfl rfl rfl H19 ?_
      clear H19; intro a20 H20
      refine plainW (y_loadAB rfl z_agg23 z_size23 rfl (by repeat (first | exact Mh | apply Mt)) (q_ld_b32_0_32 (by first | assumption | exact hhl)) (q_len_b32 (by first | assumption | exact hhl))) rfl rfl rfl H20 ?_
      clear H20; intro a21 H21
      refine yieldW rfl rfl rfl rfl rfl rfl H21 (hY k _ (by omega) hN (H21.sep.sub (List.sublist_cons_self _ _))) ?_ ?_
      · rintro w22 a22 ⟨hN2, hs2⟩ F22
        refine plainW (y_not rfl rfl) rfl rfl rfl ⟨F22, hs2⟩ ?_
        clear H21; intro a23 H23
        refine wpListIn_nil ?_
        refine then_n ?_
        refine cnd H23 rfl (fun hc24 => absurd hc24 (by simp)) (fun hc24 => ?_)
        refine wp_skip ?_
        refine inb_n ?_
        refine then_n ?_
        refine reg ?_
        refine plain (y_add rfl rfl rfl (by first | exact w64 (by omega) (by omega) | rfl)) rfl rfl rfl H23 ?_
        clear H23; intro a25 H25
        refine plain (y_move rfl rfl) rfl rfl rfl H25 ?_
        clear H25; intro a26 H26
        refine fin ?_
        refine then_n ?_
        exact ⟨k + 1, by omega, ⟨by omega, hN2⟩, H26.weak ⟨rfl, rfl, rfl, rfl, fi rfl (by omega), trivial⟩ rfl⟩
      · rintro w22 a22 ⟨hM2, hs2⟩ F22
        refine plainW (y_not rfl rfl) rfl rfl rfl ⟨F22, hs2⟩ ?_
        clear H21; intro a23 H23
        refine wpListIn_nil ?_
        refine then_n ?_
        refine cnd H23 rfl (fun hc24 => ?_) (fun hc24 => absurd hc24 (by simp))
        refine wp_ret ?_
        refine inb_r ?_
        refine then_r ?_
        refine then_r ?_
        refine inb_r ?_
        refine ret0 rfl H23 ?_
        exact ⟨_, rfl, .inr ⟨k, by omega, hM2, H23.sep⟩⟩
    · skip
      try simp only [decide_eq_true_eq, decide_eq_false_iff_not, Bool.not_eq_true', Bool.not_eq_false', Bool.and_eq_true, Bool.not_eq_true, Bool.not_eq_false] at hc12
      refine wp_exit ?_
      refine then_x ?_
      refine then_x ?_
      refine inb_hit ?_
      -- return 3
      refine end0 rfl H11 ?_
      obtain rfl : k = X.length := by omega
      exact ⟨_, rfl, .inl ⟨hN, H11.sep⟩⟩

end Go.Proofs.YtlhddgkbbdfacaaDoor.C_Ea

set_option linter.unusedVariables false
set_option linter.unusedSimpArgs false
namespace Go.Proofs.YtlhddgkbbdfacaaDoor.C_Fd
open Go.Sx Go.RowKit Go.Proofs.YtlhddgkbbdfacaaDoor.C_Ea

theorem z_zeroN3 : zeroL Tryd.prog 3 = some ((.int .i64 0 :: [])) := by kernel_rfl
theorem z_zeroN4 : zeroL Tryd.prog 4 = some ((.bool false :: [])) := by kernel_rfl
theorem z_zeroN23 : zeroL Tryd.prog 23 = some ((List.replicate 32 (0 : UInt8)).map u8) := by kernel_rfl
theorem z_size23 : sizeB Tryd.prog 23 = some 32 := by kernel_rfl
theorem q_one_b32 {t0 : List UInt8} : (t0.map u8).all (·.oneCell') = true := (one_u8 _)
theorem q_len_b32 {t0 : List UInt8} (h0 : t0.length = 32) : (t0.map u8).length = 32 := (len_e (k := 32) h0)
theorem q_spl_b32_0_b32 {t0 : List UInt8} {s0 : List UInt8} (h0 : t0.length = 32) (g0 : s0.length = 32) : spl (t0.map u8) 0 (s0.map u8) = s0.map u8 := (spl_a (z := 32) (len_e (k := 32) h0) (len_e (k := 32) g0))
theorem z_agg23 : aggB Tryd.prog 23 = some true := by kernel_rfl
theorem q_ld_b32_0_32 {t0 : List UInt8} (h0 : t0.length = 32) : ((t0.map u8).drop 0).take 32 = t0.map u8 := (ld_a (len_e (k := 32) h0))
theorem z_size5 : sizeB Tryd.prog 5 = some 1 := by kernel_rfl
theorem z_size3 : sizeB Tryd.prog 3 = some 1 := by kernel_rfl
theorem q_len_c1 {a0 : Value} : (a0 :: []).length = 1 := (len_c (n := 0) len_n)
theorem q_set_c1_0 {a0 : Value} {v : Value} : (a0 :: []).set 0 v = v :: [] := set_0
theorem z_size4 : sizeB Tryd.prog 4 = some 1 := by kernel_rfl


theorem z_call44 : callB Tryd.prog 44 = true := by kernel_rfl
theorem no_lets2 {K : Act → World → Prop} {K2 : Act → World → Prop} : ¬ LetsOut (Exit.then K (Exit.then K2 fun _ _ _ => False)) := fun ⟨_, _, h⟩ => h
theorem no_lets3 {K : Act → World → Prop} {S : List Nat} {w0 : World} {x : It} {G B : List It → Prop} {id : Nat} : ¬ LetsOut (Exit.then K (Exit.inBlock id (RQ S w0 x G B))) := fun ⟨_, _, h⟩ => h
theorem no_lets4 {K : Act → World → Prop} {S : List Nat} {w0 : World} {x : It} {G B : List It → Prop} {id : Nat} : ¬ LetsOut (Exit.then K (Exit.inBlock id (RQ S w0 x G B))) := fun ⟨_, _, h⟩ => h
theorem z_agg3 : aggB Tryd.prog 3 = some false := by kernel_rfl
theorem z_agg4 : aggB Tryd.prog 4 = some false := by kernel_rfl

set_option maxRecDepth 100000 in
set_option maxHeartbeats 2000000 in
theorem tfindG (pv : Value) (hs : List (List UInt8)) (hH : H32 hs) (h : List UInt8) (hh : h.length = 32) {w : World}
    (hE : ∀ (r : Nat) (I : List It) (N M : Nat → Prop) (Ix : Nat → List It) (w1 : World), N 0 → Sep [] w w1 I →
      (∀ k w', k < hs.length → N k → Sep [] w w' I → YieldAt Fence.wide 0 Tryd.prog r [Value.int .i64 (k : Int), .agg ((hs.getD k []).map u8).toArray].toArray w' fun e W' => (e = .returned (.bool true) ∧ (N (k + 1) ∧ Sep [] w W' I)) ∨ (e = .returned (.bool false) ∧ (M k ∧ Sep [] w W' (Ix k)))) →
      Calls Tryd.prog 44 #[pv, .func (.yield r) #[] #[]] w1 fun e w' => ∃ v, e = .returned v ∧ ((N hs.length ∧ Sep [] w w' I) ∨ ∃ k, k < hs.length ∧ M k ∧ Sep [] w w' (Ix k))) :
    Calls Tryd.prog 29 #[pv, .agg (h.map u8).toArray] w (Gives (.tuple #[.int .i64 (Tree.find hs h).1, .bool (Tree.find hs h).2]) [] w) := by
  have lz32 : (List.replicate 32 (0 : UInt8)).length = 32 := List.length_replicate
  refine enterM (args := [pv, .agg (h.map u8).toArray]) Tryd.func29 rfl rfl (l := []) (Sep.refl _) ?_
  intro a0 H0
  refine wp_seq ?_
  refine reg ?_
  refine st_box rfl rfl (agg_cells _) rfl rfl rfl H0 ?_
  clear H0; intro b1 a1 wx1 H1
  refine st_alloc rfl z_zeroN3 rfl rfl rfl H1 ?_
  clear H1; intro b2 a2 wx2 H2
  refine st_alloc rfl z_zeroN4 rfl rfl rfl H2 ?_
  clear H2; intro b3 a3 wx3 H3
  refine fin ?_
  refine then_n ?_
  refine wp_seq ?_
  refine wp_seq ?_
  refine reg ?_
  refine plain (y_move rfl rfl) rfl rfl rfl H3 ?_
  clear H3; intro a4 H4
  refine plain (y_fn (xs := [.tmp 8]) (ys := []) rfl rfl rfl) rfl rfl rfl H4 ?_
  clear H4; intro a5 H5
  refine fin ?_
  refine then_n ?_
  refine wp_block ?_
  refine rangeW (gf := 44) (recv := pv) (lN := [It.blk b3 4 [.bool false], It.blk b2 3 [.int .i64 0], It.blk b1 23 (h.map u8)]) (GN := ∀ j, j < hs.length → hs.getD j [] ≠ h)
    (GM := fun lM => ∃ k, (k < hs.length ∧ hs.getD k [] = h ∧ ∀ j, j < k → hs.getD j [] ≠ h) ∧ lM = [It.blk b3 4 [.bool true], It.blk b2 3 [.int .i64 (k : Int)], It.blk b1 23 (h.map u8)]) rfl z_call44 H5 ?_ ?_ ?_
  · intro fn r D rc w1 hrc hs1
    refine (hE r _ (fun k => ∀ j, j < k → hs.getD j [] ≠ h) (fun k => hs.getD k [] = h ∧ ∀ j, j < k → hs.getD j [] ≠ h)
      (fun k => [It.obj r (.loop (rc .done (some .ret))), It.obj D (.deferred (some [])), It.blk b3 4 [.bool true], It.blk b2 3 [.int .i64 (k : Int)], It.blk b1 23 (h.map u8)]) w1 (fun j hj => absurd hj (by omega)) hs1 ?_).mono ?_
    · intro k w2 hk hN hs2
      have hhk : (hs.getD k []).length = 32 := hH.getD hk
      refine yield_mono (yield_of (P := Tryd.prog) (args := [Value.int .i64 (k : Int), .agg ((hs.getD k []).map u8).toArray])
        (G := fun lb => (∀ j, j < k + 1 → hs.getD j [] ≠ h) ∧ lb = [It.obj D (.deferred (some [])), It.blk b3 4 [.bool false], It.blk b2 3 [.int .i64 0], It.blk b1 23 (h.map u8)])
        (B := fun lb => (hs.getD k [] = h ∧ ∀ j, j < k → hs.getD j [] ≠ h) ∧ lb = [It.obj D (.deferred (some [])), It.blk b3 4 [.bool true], It.blk b2 3 [.int .i64 (k : Int)], It.blk b1 23 (h.map u8)]) hrc rfl hs2 ?_) ?_
      · have F6 := fr_round (p1 := 10) (p2 := 11) (v1 := .int .i64 (k : Int)) (v2 := .agg ((hs.getD k []).map u8).toArray) H5.fr (by decide) (by decide)
        have H6 := St.mk F6 hs2
        refine wpIn_seq ?_
        refine reg_round no_lets2 rfl ?_
        refine plain (y_assign rfl rfl) rfl rfl rfl H6 ?_
        clear H6; intro a7 H7
        refine fin ?_
        refine then_n ?_
        refine reg_round no_lets1 rfl ?_
        refine st_alloc rfl z_zeroN23 rfl rfl rfl H7 ?_
        clear H7; intro b7 a8 wx8 H8
        refine st_storeN rfl z_size23 rfl rfl (agg_cells _) (by repeat (first | exact Uh | apply Ut)) q_one_b32 (q_len_b32 hhk) (q_len_b32 (by assumption)) (q_spl_b32_0_b32 (by assumption) hhk) (by decide) rfl rfl H8 ?_
        clear H8; intro wx9 H9
        refine fin ?_
        refine then_n ?_
        refine ⟨_, H9.sep.perm (List.Perm.swap _ _ _), ?_⟩
        intro w10 hs10
        have H10 := St.mk H9.fr hs10
        refine wpIn_block ?_
        refine wpIn_seq ?_
        refine reg_round no_lets3 rfl ?_
        refine plain (y_loadAB rfl z_agg23 z_size23 rfl (by repeat (first | exact Mh | apply Mt)) (q_ld_b32_0_32 hhk) (q_len_b32 hhk)) rfl rfl rfl H10 ?_
        clear H10; intro a11 H11
        refine plain (y_loadAB rfl z_agg23 z_size23 rfl (by repeat (first | exact Mh | apply Mt)) (q_ld_b32_0_32 hh) (q_len_b32 hh)) rfl rfl rfl H11 ?_
        clear H11; intro a12 H12
        refine plain (y_heql rfl Tryd.eqGuardType23 Tryd.underlying23 Tryd.underlying5 z_size5 rfl rfl hhk hh) rfl rfl rfl H12 ?_
        clear H12; intro a13 H13
        refine fin ?_
        refine then_n ?_
        by_cases he : hs.getD k [] = h
        · refine wpIn_cond_true (by rw [H13.fr.ev (x := .tmp 14) rfl]; simp only [he, decide_true]) ?_
          refine wpIn_seq ?_
          refine reg_round no_lets4 rfl ?_
          refine plain (y_move rfl rfl) rfl rfl rfl H13 ?_
          clear H13; intro a14 H14
          refine st_store1N rfl z_size3 rfl rfl rfl (by repeat (first | exact Uh | apply Ut)) q_len_c1 q_set_c1_0 (by decide) rfl rfl H14 ?_
          clear H14; intro wx15 H15
          refine st_store1N rfl z_size4 rfl rfl rfl (by repeat (first | exact Uh | apply Ut)) q_len_c1 q_set_c1_0 (by decide) rfl rfl H15 ?_
          clear H15; intro wx16 H16
          refine fin ?_
          refine then_n ?_
          refine wpIn_ret ?_
          refine inb_r ?_
          exact ⟨_, H16.sep.sub (List.Sublist.cons_cons _ (List.sublist_cons_self _ _)), ⟨he, hN⟩, rfl⟩
        · refine wpIn_cond_false (by rw [H13.fr.ev (x := .tmp 14) rfl]; simp only [he, decide_false]) ?_
          refine wpIn_skip ?_
          refine inb_n ?_
          exact ⟨_, H13.sep.sub (List.Sublist.cons_cons _ (List.sublist_cons_self _ _)), fun j hj => by
            by_cases e : j = k
            · subst e; exact he
            · exact hN j (by omega), rfl⟩
      · rintro e W' (⟨rfl, lb, ⟨h1, rfl⟩, h3⟩ | ⟨rfl, lb, ⟨h1, rfl⟩, h3⟩)
        · exact .inl ⟨rfl, h1, h3⟩
        · exact .inr ⟨rfl, h1, h3⟩
    · rintro e w2 ⟨v, rfl, (⟨h1, h2⟩ | ⟨k, hk, h1, h2⟩)⟩
      · exact ⟨v, rfl, .inl ⟨h1, h2⟩⟩
      · exact ⟨v, rfl, .inr ⟨_, ⟨k, ⟨hk, h1⟩, rfl⟩, h2⟩⟩
  · intro D w3 hN hs3
    refine inb_n ?_
    refine then_n ?_
    refine wp_seq ?_
    refine reg_under ?_
    have H7 : St Tryd.f29.ntmps [] w _ _ { tmps := a5.tmps, defers := [] } w3 := ⟨⟨H5.fr.sz, rfl, H5.fr.ok⟩, hs3⟩
    refine st_store1N rfl z_size3 rfl rfl rfl (by repeat (first | exact Uh | apply Ut)) q_len_c1 q_set_c1_0 (by decide) rfl rfl H7 ?_
    clear H7; intro wx8 H8
    refine st_store1N rfl z_size4 rfl rfl rfl (by repeat (first | exact Uh | apply Ut)) q_len_c1 q_set_c1_0 (by decide) rfl rfl H8 ?_
    clear H8; intro wx9 H9
    refine fin ⟨rfl, ?_⟩
    refine then_n ?_
    refine wp_ret ?_
    refine retM H9.sep ?_
    intro w' hs'
    refine ⟨_, run_cc1 (a := { tmps := a5.tmps, defers := [] }) rfl H9.fr.ok hs' rfl z_agg3 (by repeat (first | exact Mh | apply Mt)) rfl z_agg4 (by repeat (first | exact Mh | apply Mt)), ?_⟩
    rw [Tree.find_none hN]
    exact ⟨_, [], rfl, ⟨rfl, rfl⟩, hs'.sub (List.nil_sublist _)⟩
  · rintro D w3 lM ⟨k, ⟨hk, h1, h2⟩, rfl⟩ hs3
    refine inb_r ?_
    refine then_r ?_
    refine retM hs3 ?_
    intro w' hs'
    refine ⟨_, run_cc1 (a := a5) rfl H5.fr.ok hs' rfl z_agg3 (by repeat (first | exact Mh | apply Mt)) rfl z_agg4 (by repeat (first | exact Mh | apply Mt)), ?_⟩
    rw [Tree.find_at hk h1 h2]
    exact ⟨_, [], rfl, ⟨rfl, rfl⟩, hs'.sub (List.nil_sublist _)⟩


set_option maxRecDepth 100000 in
set_option maxHeartbeats 1000000 in
theorem teachN {w0 : World} (r : Nat) (I : List It) {w : World} (hs : Sep [] w0 w I) : Calls Tryd.prog 44 #[.pointer none, .func (.yield r) #[] #[]] w fun e w' => ∃ v, e = .returned v ∧ Sep [] w0 w' I := by
  refine enterB (args := [.pointer none, .func (.yield r) #[] #[]]) Tryd.func44 rfl rfl (l := I) hs ?_
  intro a0 H0
  refine wp_seq ?_
  refine wp_seq ?_
  refine reg ?_
  refine plain (y_move rfl rfl) rfl rfl rfl H0 ?_
  clear H0; intro a1 H1
  refine plain (y_peql rfl Tryd.underlying33 rfl rfl) rfl rfl rfl H1 ?_
  clear H1; intro a2 H2
  refine fin ?_
  refine then_n ?_
  refine cnd H2 rfl (fun hc3 => ?_) (fun hc3 => absurd hc3 (by simp))
  refine wp_ret ?_
  refine then_r ?_
  refine ret0 rfl H2 ?_
  exact ⟨_, rfl, H2.sep⟩

theorem tfindN (h : List UInt8) (hh : h.length = 32) (w : World) : Calls Tryd.prog 29 #[.pointer none, .agg (h.map u8).toArray] w (Gives (.tuple #[.int .i64 0, .bool false]) [] w) :=
  tfindG (.pointer none) [] (fun x hx => absurd hx (by simp)) h hh fun r I N M Ix w1 h0 hs _ => (teachN r I hs).mono fun e w' ⟨v, h1, h2⟩ => ⟨v, h1, .inl ⟨h0, h2⟩⟩

theorem tfind (X : List Inbox.BA) (hX : Tree.Wfs X) (h0 : 0 < X.length) (hlen : X.length ≤ 4097) (dp de : Int) (c : Nat) (v u : Value) (h : List UInt8) (hh : h.length = 32) {w : World} (hc_ : (It.blk c 77 [v, u, i64 dp, i64 de]).P w) (hu_ : (It.row 23 32 u X.length (hc (Tree.hashes (Tree.bl X)))).P w) :
    Calls Tryd.prog 29 #[.pointer (some ⟨c, 0, none⟩), .agg (h.map u8).toArray] w (Gives (.tuple #[.int .i64 (Tree.find (Tree.hashes (Tree.bl X)) h).1, .bool (Tree.find (Tree.hashes (Tree.bl X)) h).2]) [] w) := by
  have hl : (Tree.hashes (Tree.bl X)).length = X.length := by rw [Tree.hashes_len, Tree.bl_len]
  refine tfindG _ _ (Tree.hashes_h _) h hh fun r I N M Ix w1 hN hs hY => ?_
  rw [hl] at hY ⊢
  exact teach X hX h0 hlen dp de c v u hc_ hu_ r I N M Ix hN hs hY

end Go.Proofs.YtlhddgkbbdfacaaDoor.C_Fd

set_option linter.unusedVariables false
set_option linter.unusedSimpArgs false
namespace Go.Proofs.YtlhddgkbbdfacaaDoor.C_Aw
open Go.Sx Go.RowKit Go.Proofs.YtlhddgkbbdfacaaDoor.C_Block Go.Proofs.YtlhddgkbbdfacaaDoor.C_Sum Go.Proofs.YtlhddgkbbdfacaaDoor.C_Ref Go.Proofs.YtlhddgkbbdfacaaDoor.C_RSum Go.Proofs.YtlhddgkbbdfacaaDoor.C_Num Go.Proofs.YtlhddgkbbdfacaaDoor.C_Lay Go.Proofs.YtlhddgkbbdfacaaDoor.C_Leaf Go.Proofs.YtlhddgkbbdfacaaDoor.C_Item Go.Proofs.YtlhddgkbbdfacaaDoor.C_RefI Go.Proofs.YtlhddgkbbdfacaaDoor.C_Eq Go.Proofs.YtlhddgkbbdfacaaDoor.C_Hash Go.Proofs.YtlhddgkbbdfacaaDoor.C_Nx Go.Proofs.YtlhddgkbbdfacaaDoor.C_Sm Go.Proofs.YtlhddgkbbdfacaaDoor.C_New Go.Proofs.YtlhddgkbbdfacaaDoor.C_Mine Go.Proofs.YtlhddgkbbdfacaaDoor.C_Ea Go.Proofs.YtlhddgkbbdfacaaDoor.C_Fd

theorem z_call12 : callB Tryd.prog 12 = true := by kernel_rfl
theorem z_call13 : callB Tryd.prog 13 = true := by kernel_rfl
theorem z_zeroN23 : zeroL Tryd.prog 23 = some ((List.replicate 32 (0 : UInt8)).map u8) := by kernel_rfl
theorem z_size23 : sizeB Tryd.prog 23 = some 32 := by kernel_rfl
theorem q_one_b32 {t0 : List UInt8} : (t0.map u8).all (·.oneCell') = true := (one_u8 _)
theorem q_len_b32 {t0 : List UInt8} (h0 : t0.length = 32) : (t0.map u8).length = 32 := (len_e (k := 32) h0)
theorem q_spl_b32_0_b32 {t0 : List UInt8} {s0 : List UInt8} (h0 : t0.length = 32) (g0 : s0.length = 32) : spl (t0.map u8) 0 (s0.map u8) = s0.map u8 := (spl_a (z := 32) (len_e (k := 32) h0) (len_e (k := 32) g0))
theorem z_agg23 : aggB Tryd.prog 23 = some true := by kernel_rfl
theorem q_ld_b32_0_32 {t0 : List UInt8} (h0 : t0.length = 32) : ((t0.map u8).drop 0).take 32 = t0.map u8 := (ld_a (len_e (k := 32) h0))
theorem z_call29 : callB Tryd.prog 29 = true := by kernel_rfl
theorem z_call21 : callB Tryd.prog 21 = true := by kernel_rfl
theorem z_call18 : callB Tryd.prog 18 = true := by kernel_rfl

set_option maxRecDepth 100000 in
set_option maxHeartbeats 4000000 in
theorem awake {w : World} (hG : Glob 0 Sha.K w) : Calls Tryd.prog 11 #[] w (Gives (.bool true) [] w) := by
  have hZl : Note.Z.length = 32 := Note.Z_len
  have lz32 : (List.replicate 32 (0 : UInt8)).length = 32 := List.length_replicate
  refine enterL (args := []) Tryd.func11 rfl rfl (l := []) (Sep.refl _) ?_
  intro a0 H0
  refine wp_seq ?_
  refine reg ?_
  refine plain (y_assign rfl rfl) rfl rfl rfl H0 ?_
  clear H0; intro a1 H1
  refine fin ?_
  refine then_n ?_
  refine wp_seq ?_
  refine reg ?_
  refine st_call rfl z_call12 rfl rfl rfl rfl H1 (tnew 1 (by decide) (hG.frm H1.sep.frm (by simp))) ?_
  clear H1; intro v2 l2 a2 wx2 hf2 H2
  obtain ⟨c, v, u, rfl, rfl⟩ := hf2
  simp only [List.cons_append, List.nil_append] at H2
  refine plain (y_move rfl rfl) rfl rfl rfl H2 ?_
  clear H2; intro a3 H3
  refine plain (y_extract rfl rfl rfl) rfl rfl rfl H3 ?_
  clear H3; intro a4 H4
  refine plain (y_extract rfl rfl rfl) rfl rfl rfl H4 ?_
  clear H4; intro a5 H5
  refine plain (y_assign rfl rfl) rfl rfl rfl H5 ?_
  clear H5; intro a6 H6
  refine plain (y_assign rfl rfl) rfl rfl rfl H6 ?_
  clear H6; intro a7 H7
  refine fin ?_
  refine then_n ?_
  refine wp_seq ?_
  refine wp_seq ?_
  refine reg ?_
  refine plain (y_move rfl rfl) rfl rfl rfl H7 ?_
  clear H7; intro a8 H8
  refine plain (y_neq rfl rfl rfl) rfl rfl rfl H8 ?_
  clear H8; intro a9 H9
  refine plain (y_move rfl rfl) rfl rfl rfl H9 ?_
  clear H9; intro a10 H10
  have H12 := H10.know (d := 13) (v := .bool false) rfl (congrArg Value.bool (decide_eq_false (by decide)))
  clear H10
  refine plain (y_move rfl rfl) rfl rfl rfl H12 ?_
  clear H12; intro a13 H13
  refine plain (y_peql rfl Tryd.underlying33 rfl rfl) rfl rfl rfl H13 ?_
  clear H13; intro a14 H14
  refine plain (y_pick_f rfl rfl rfl) rfl rfl rfl H14 ?_
  clear H14; intro a15 H15
  refine fin ?_
  refine then_n ?_
  refine cnd H15 rfl (fun hc16 => ?_) (fun hc16 => ?_) -- cond 1
  · (try simp only [decide_eq_true_eq, decide_eq_false_iff_not, Bool.not_eq_true', Bool.not_eq_false', Bool.and_eq_true, Bool.not_eq_true, Bool.not_eq_false] at hc16); (exfalso; simp at hc16)
  · skip
    try simp only [decide_eq_true_eq, decide_eq_false_iff_not, Bool.not_eq_true', Bool.not_eq_false', Bool.and_eq_true, Bool.not_eq_true, Bool.not_eq_false] at hc16
    refine wp_skip ?_
    refine then_n ?_
    refine wp_seq ?_
    refine reg ?_
    refine plain (y_move rfl rfl) rfl rfl rfl H15 ?_
    clear H15; intro a17 H17
    refine st_callk2 (is := [It.row 26 35 v [Inbox.BA.zero].length (Inbox.bc [Inbox.BA.zero]), It.row 23 32 u [Inbox.BA.zero].length (hc (Tree.hashes (Tree.bl [Inbox.BA.zero]))), It.blk c 77 [v, u, i64 1, i64 0], (Tree.It.fz [Inbox.BA.zero])]) (enters_call rfl z_call13 rfl) rfl rfl rfl H17 (.cons (by repeat (first | exact Ph | apply Pt)) (.cons (by repeat (first | exact Ph | apply Pt)) (.cons (by repeat (first | exact Ph | apply Pt)) (.cons (by repeat (first | exact Ph | apply Pt)) (.nil _))))) (fun hs => tmine [Inbox.BA.zero] (Tree.Wfs.one Tree.w0_zero) (by decide) (by decide) 1 0 c v u 0 (by decide) none 0 [] (fun _ h => absurd h (by simp)) (by decide) hs (fun _ _ => Rd.nil _ _) (hG.frm H17.sep.frm (by simp)) (fps_new H17.sep (.cons (by repeat (first | exact Ph | apply Pt)) (.cons (by repeat (first | exact Ph | apply Pt)) (.cons (by repeat (first | exact Ph | apply Pt)) (.cons (by repeat (first | exact Ph | apply Pt)) (.nil _))))) hG (by decide))) ?_
    clear H17; intro v18 l18 a18 wx18 hf18 H18
    obtain ⟨X1, v1, u1, ⟨hX1, hW1⟩, rfl, rfl⟩ := hf18
    simp only [List.cons_append, List.nil_append] at H18
    simp only [Tree.aw_mx1] at H18
    have hb1 := Tree.aw_x1 hX1
    have hl1 := Tree.aw_l1 hb1
    refine plain (y_move rfl rfl) rfl rfl rfl H18 ?_
    clear H18; intro a19 H19
    refine plain (y_extract rfl rfl rfl) rfl rfl rfl H19 ?_
    clear H19; intro a20 H20
    refine plain (y_extract rfl rfl rfl) rfl rfl rfl H20 ?_
    clear H20; intro a21 H21
    refine st_alloc rfl z_zeroN23 rfl rfl rfl H21 ?_
    clear H21; intro b22 a22 wx22 H22
    refine st_storeN rfl z_size23 rfl rfl (agg_cells _) (by repeat (first | exact Uh | apply Ut)) q_one_b32 (q_len_b32 (by first | assumption | exact Tree.hash_len _)) (q_len_b32 (by first | assumption | exact Tree.hash_len _)) (q_spl_b32_0_b32 (by first | assumption | exact Tree.hash_len _) (by first | assumption | exact Tree.hash_len _)) (by decide) rfl rfl H22 ?_
    clear H22; intro wx23 H23
    refine plain (y_assign rfl rfl) rfl rfl rfl H23 ?_
    clear H23; intro a24 H24
    refine fin ?_
    refine then_n ?_
    refine wp_seq ?_
    refine reg ?_
    refine plain (y_move rfl rfl) rfl rfl rfl H24 ?_
    clear H24; intro a25 H25
    refine st_callk2 (is := [It.row 26 35 v1 X1.length (Inbox.bc X1), It.row 23 32 u1 X1.length (hc (Tree.hashes (Tree.bl X1))), It.blk c 77 [v1, u1, i64 1, i64 0], (Tree.It.fz X1)]) (enters_call rfl z_call13 rfl) rfl rfl rfl H25 (.cons (by repeat (first | exact Ph | apply Pt)) (.cons (by repeat (first | exact Ph | apply Pt)) (.cons (by repeat (first | exact Ph | apply Pt)) (.cons (by repeat (first | exact Ph | apply Pt)) (.nil _))))) (fun hs => tmine X1 hW1 (by omega) (by omega) 1 0 c v1 u1 0 (by decide) none 0 [] (fun _ h => absurd h (by simp)) (by decide) hs (fun _ _ => Rd.nil _ _) (hG.frm H25.sep.frm (by simp)) (fps_new H25.sep (.cons (by repeat (first | exact Ph | apply Pt)) (.cons (by repeat (first | exact Ph | apply Pt)) (.cons (by repeat (first | exact Ph | apply Pt)) (.cons (by repeat (first | exact Ph | apply Pt)) (.nil _))))) hG (by decide))) ?_
    clear H25; intro v26 l26 a26 wx26 hf26 H26
    obtain ⟨X2, v2, u2, ⟨hX2, hW2⟩, rfl, rfl⟩ := hf26
    simp only [List.cons_append, List.nil_append] at H26
    have hb2 := Tree.aw_x2 hb1 hX2
    have hl2 := Tree.aw_l2 hb2
    have hfi := Tree.aw_fin hb2
    refine fin ?_
    refine then_n ?_
    refine wp_seq ?_
    refine reg ?_
    refine plain (y_move rfl rfl) rfl rfl rfl H26 ?_
    clear H26; intro a27 H27
    refine plain (y_loadAB rfl z_agg23 z_size23 rfl (by repeat (first | exact Mh | apply Mt)) (q_ld_b32_0_32 (by first | assumption | exact Tree.hash_len _)) (q_len_b32 (by first | assumption | exact Tree.hash_len _))) rfl rfl rfl H27 ?_
    clear H27; intro a28 H28
    refine st_callg rfl z_call29 rfl rfl rfl rfl H28 (tfind X2 hW2 (by omega) (by omega) 1 0 c v2 u2 (Tree.hash Tree.awB1).1 (Tree.hash_len _) (H28.sep.all _ (by repeat (first | exact Mh | apply Mt))) (H28.sep.all _ (by repeat (first | exact Mh | apply Mt)))) ?_
    clear H28; intro a29 wx29 H29
    refine plain (y_move rfl rfl) rfl rfl rfl H29 ?_
    clear H29; intro a30 H30
    simp only [Tree.aw_fd hb2] at H30
    refine plain (y_extract rfl rfl rfl) rfl rfl rfl H30 ?_
    clear H30; intro a31 H31
    refine plain (y_extract rfl rfl rfl) rfl rfl rfl H31 ?_
    clear H31; intro a32 H32
    refine plain (y_assign rfl rfl) rfl rfl rfl H32 ?_
    clear H32; intro a33 H33
    refine plain (y_assign rfl rfl) rfl rfl rfl H33 ?_
    clear H33; intro a34 H34
    refine fin ?_
    refine then_n ?_
    refine wp_seq ?_
    refine reg ?_
    refine plain (y_move rfl rfl) rfl rfl rfl H34 ?_
    clear H34; intro a35 H35
    refine plain (y_eql rfl rfl rfl) rfl rfl rfl H35 ?_
    clear H35; intro a36 H36
    refine plain (y_move rfl rfl) rfl rfl rfl H36 ?_
    clear H36; intro a37 H37
    have H39 := H37.know (d := 32) (v := .bool true) rfl ((by first | rfl | exact congrArg Value.bool (decide_eq_true (by first | decide | omega))))
    clear H37
    refine plain (y_move rfl rfl) rfl rfl rfl H39 ?_
    clear H39; intro a40 H40
    refine plain (y_eql rfl rfl rfl) rfl rfl rfl H40 ?_
    clear H40; intro a41 H41
    refine plain (y_pick_t rfl rfl rfl) rfl rfl rfl H41 ?_
    clear H41; intro a42 H42
    refine plain (y_move rfl rfl) rfl rfl rfl H42 ?_
    clear H42; intro a43 H43
    have H45 := H43.know (d := 36) (v := .bool true) rfl ((by first | rfl | exact congrArg Value.bool (decide_eq_true (by first | decide | omega))))
    clear H43
    refine plain (y_move rfl rfl) rfl rfl rfl H45 ?_
    clear H45; intro a46 H46
    refine plain (y_pick_t rfl rfl rfl) rfl rfl rfl H46 ?_
    clear H46; intro a47 H47
    refine plain (y_move rfl rfl) rfl rfl rfl H47 ?_
    clear H47; intro a48 H48
    have H50 := H48.know (d := 39) (v := .bool true) rfl ((by first | rfl | exact congrArg Value.bool (decide_eq_true (by first | decide | omega))))
    clear H48
    refine plain (y_move rfl rfl) rfl rfl rfl H50 ?_
    clear H50; intro a51 H51
    refine st_callg rfl z_call21 rfl rfl rfl rfl H51 (theight X2 hW2 (by omega) (by omega) 1 0 c v2 u2 (H51.sep.all _ (by repeat (first | exact Mh | apply Mt))) (H51.sep.all _ (by repeat (first | exact Mh | apply Mt)))) ?_
    clear H51; intro a52 wx52 H52
    refine plain (y_eql rfl rfl rfl) rfl rfl rfl H52 ?_
    clear H52; intro a53 H53
    refine plain (y_pick_t rfl rfl rfl) rfl rfl rfl H53 ?_
    clear H53; intro a54 H54
    refine plain (y_move rfl rfl) rfl rfl rfl H54 ?_
    clear H54; intro a55 H55
    have H57 := H55.know (d := 44) (v := .bool true) rfl ((by first | rfl | exact congrArg Value.bool (decide_eq_true (by first | decide | omega))))
    clear H55
    refine plain (y_move rfl rfl) rfl rfl rfl H57 ?_
    clear H57; intro a58 H58
    refine st_callg rfl z_call18 rfl rfl rfl rfl H58 (tfinal X2 hW2 (by omega) (by omega) 1 0 c v2 u2 (by decide) (by decide) (H58.sep.all _ (by repeat (first | exact Mh | apply Mt))) (H58.sep.all _ (by repeat (first | exact Mh | apply Mt)))) ?_
    clear H58; intro a59 wx59 H59
    simp only [hfi] at H59
    refine plain (y_eql rfl rfl rfl) rfl rfl rfl H59 ?_
    clear H59; intro a60 H60
    refine plain (y_pick_t rfl rfl rfl) rfl rfl rfl H60 ?_
    clear H60; intro a61 H61
    refine plain (y_assign rfl rfl) rfl rfl rfl H61 ?_
    clear H61; intro a62 H62
    refine fin ?_
    refine then_n ?_
    refine wp_ret ?_
    -- return 1
    refine ret1 rfl H62 rfl ?_
    exact ⟨_, [], rfl, ⟨by first | rfl | exact congrArg Value.bool (decide_eq_true (by first | decide | omega)), rfl⟩, H62.sep.sub (List.nil_sublist _)⟩

end Go.Proofs.YtlhddgkbbdfacaaDoor.C_Aw

set_option linter.unusedVariables false
set_option linter.unusedSimpArgs false
namespace Go.Proofs.YtlhddgkbbdfacaaDoor.C_Has
open Go.Sx Go.RowKit Go.Proofs.YtlhddgkbbdfacaaDoor.C_Block Go.Proofs.YtlhddgkbbdfacaaDoor.C_Sum Go.Proofs.YtlhddgkbbdfacaaDoor.C_Ref Go.Proofs.YtlhddgkbbdfacaaDoor.C_RSum Go.Proofs.YtlhddgkbbdfacaaDoor.C_Num Go.Proofs.YtlhddgkbbdfacaaDoor.C_Lay Go.Proofs.YtlhddgkbbdfacaaDoor.C_Leaf Go.Proofs.YtlhddgkbbdfacaaDoor.C_Item Go.Proofs.YtlhddgkbbdfacaaDoor.C_RefI Go.Proofs.YtlhddgkbbdfacaaDoor.C_Eq Go.Proofs.YtlhddgkbbdfacaaDoor.C_Hash Go.Proofs.YtlhddgkbbdfacaaDoor.C_Nx Go.Proofs.YtlhddgkbbdfacaaDoor.C_Sm

theorem z_field77_0 : fieldB Tryd.prog 77 0 = some 0 := by kernel_rfl
theorem z_agg36 : aggB Tryd.prog 36 = some false := by kernel_rfl
theorem z_zeroN23 : zeroL Tryd.prog 23 = some ((List.replicate 32 (0 : UInt8)).map u8) := by kernel_rfl
theorem z_call41 : callB Tryd.prog 41 = true := by kernel_rfl
theorem z_size5 : sizeB Tryd.prog 5 = some 1 := by kernel_rfl
theorem z_size23 : sizeB Tryd.prog 23 = some 32 := by kernel_rfl
theorem q_one_b32 {t0 : List UInt8} : (t0.map u8).all (·.oneCell') = true := (one_u8 _)
theorem q_len_b32 {t0 : List UInt8} (h0 : t0.length = 32) : (t0.map u8).length = 32 := (len_e (k := 32) h0)
theorem q_spl_b32_0_b32 {t0 : List UInt8} {s0 : List UInt8} (h0 : t0.length = 32) (g0 : s0.length = 32) : spl (t0.map u8) 0 (s0.map u8) = s0.map u8 := (spl_a (z := 32) (len_e (k := 32) h0) (len_e (k := 32) g0))
theorem z_agg23 : aggB Tryd.prog 23 = some true := by kernel_rfl
theorem z_field77_1 : fieldB Tryd.prog 77 1 = some 1 := by kernel_rfl
theorem z_agg75 : aggB Tryd.prog 75 = some false := by kernel_rfl

set_option maxRecDepth 100000 in
set_option maxHeartbeats 1000000 in
theorem thasN (n : Int) (w : World) : Calls Tryd.prog 41 #[.pointer none, .int .i64 n] w (Gives (.int .i64 1) [] w) := by
  have lz32 : (List.replicate 32 (0 : UInt8)).length = 32 := List.length_replicate
  refine enterL (args := [.pointer none, .int .i64 n]) Tryd.func41 rfl rfl (l := []) (Sep.refl _) ?_
  intro a0 H0
  refine wp_seq ?_
  refine reg ?_
  refine plain (y_assign rfl rfl) rfl rfl rfl H0 ?_
  clear H0; intro a1 H1
  refine fin ?_
  refine then_n ?_
  refine wp_seq ?_
  refine wp_block ?_
  refine wp_seq ?_
  refine reg ?_
  refine plain (y_move rfl rfl) rfl rfl rfl H1 ?_
  clear H1; intro a2 H2
  refine plain (y_peql rfl Tryd.underlying33 rfl rfl) rfl rfl rfl H2 ?_
  clear H2; intro a3 H3
  refine plain (y_assign rfl rfl) rfl rfl rfl H3 ?_
  clear H3; intro a4 H4
  refine fin ?_
  refine then_n ?_
  refine cnd_t H4 rfl ?_
  refine wp_seq ?_
  refine reg ?_
  refine plain (y_assign rfl rfl) rfl rfl rfl H4 ?_
  clear H4; intro a6 H6
  refine fin ?_
  refine then_n ?_
  refine wp_ret ?_
  refine inb_r ?_
  refine then_r ?_
  -- return 1
  refine ret1 rfl H6 rfl ?_
  exact ⟨_, [], rfl, ⟨rfl, rfl⟩, H6.sep.sub (List.nil_sublist _)⟩
set_option maxRecDepth 100000 in
set_option maxHeartbeats 1000000 in
theorem thashnN (n : Int) (w : World) : Calls Tryd.prog 22 #[.pointer none, .int .i64 n] w (Gives (.tuple #[.agg (Note.Z.map u8).toArray, .int .i64 1]) [] w) := by
  have hZl : Note.Z.length = 32 := Note.Z_len
  have lz32 : (List.replicate 32 (0 : UInt8)).length = 32 := List.length_replicate
  refine enterL (args := [.pointer none, .int .i64 n]) Tryd.func22 rfl rfl (l := []) (Sep.refl _) ?_
  intro a0 H0
  refine wp_seq ?_
  refine reg ?_
  refine st_alloc rfl z_zeroN23 rfl rfl rfl H0 ?_
  clear H0; intro b1 a1 wx1 H1
  refine plain (y_assign rfl rfl) rfl rfl rfl H1 ?_
  clear H1; intro a2 H2
  refine fin ?_
  refine then_n ?_
  refine wp_seq ?_
  refine wp_seq ?_
  refine reg ?_
  refine plain (y_move rfl rfl) rfl rfl rfl H2 ?_
  clear H2; intro a3 H3
  refine plain (y_move rfl rfl) rfl rfl rfl H3 ?_
  clear H3; intro a4 H4
  refine st_callg rfl z_call41 rfl rfl rfl rfl H4 (thasN n _) ?_
  clear H4; intro a5 wx5 H5
  refine plain (y_assign rfl rfl) rfl rfl rfl H5 ?_
  clear H5; intro a6 H6
  refine fin ?_
  refine then_n ?_
  refine wp_seq ?_
  refine reg ?_
  refine plain (y_move rfl rfl) rfl rfl rfl H6 ?_
  clear H6; intro a7 H7
  refine plain (y_neq rfl rfl rfl) rfl rfl rfl H7 ?_
  clear H7; intro a8 H8
  refine fin ?_
  refine then_n ?_
  refine cnd H8 rfl (fun hc9 => ?_) (fun hc9 => ?_) -- cond 1
  · skip
    try simp only [decide_eq_true_eq, decide_eq_false_iff_not, Bool.not_eq_true', Bool.not_eq_false', Bool.and_eq_true, Bool.not_eq_true, Bool.not_eq_false] at hc9
    refine wp_seq ?_
    refine reg ?_
    refine plain (y_buildA rfl z_zeroN23 Tryd.underlying23 z_size5 rfl lay_n) rfl rfl rfl H8 ?_
    clear H8; intro a10 H10
    refine plain (y_move rfl rfl) rfl rfl rfl H10 ?_
    clear H10; intro a11 H11
    refine st_storeN rfl z_size23 rfl rfl (agg_cells _) (by repeat (first | exact Uh | apply Ut)) q_one_b32 (q_len_b32 (by assumption)) (q_len_b32 (by assumption)) (q_spl_b32_0_b32 (by assumption) (by assumption)) (by decide) rfl rfl H11 ?_
    clear H11; intro wx12 H12
    refine plain (y_assign rfl rfl) rfl rfl rfl H12 ?_
    clear H12; intro a13 H13
    refine fin ?_
    refine then_n ?_
    refine wp_ret ?_
    refine then_r ?_
    -- return 1
    refine retct rfl H13 rfl z_agg23 z_size23 (by repeat (first | exact Mh | apply Mt)) (q_len_b32 (by assumption)) rfl ?_
    exact ⟨_, [], rfl, ⟨rfl, rfl⟩, H13.sep.sub (List.nil_sublist _)⟩
  · (try simp only [decide_eq_true_eq, decide_eq_false_iff_not, Bool.not_eq_true', Bool.not_eq_false', Bool.and_eq_true, Bool.not_eq_true, Bool.not_eq_false] at hc9); (exfalso; first | exact hc9 rfl | omega)

end Go.Proofs.YtlhddgkbbdfacaaDoor.C_Has

set_option linter.unusedVariables false
set_option linter.unusedSimpArgs false
namespace Go.Proofs.YtlhddgkbbdfacaaDoor.C_Blk
open Go.Sx Go.RowKit Go.Proofs.YtlhddgkbbdfacaaDoor.C_Block Go.Proofs.YtlhddgkbbdfacaaDoor.C_Sum Go.Proofs.YtlhddgkbbdfacaaDoor.C_Ref Go.Proofs.YtlhddgkbbdfacaaDoor.C_RSum Go.Proofs.YtlhddgkbbdfacaaDoor.C_Num Go.Proofs.YtlhddgkbbdfacaaDoor.C_Lay Go.Proofs.YtlhddgkbbdfacaaDoor.C_Leaf Go.Proofs.YtlhddgkbbdfacaaDoor.C_Item Go.Proofs.YtlhddgkbbdfacaaDoor.C_RefI Go.Proofs.YtlhddgkbbdfacaaDoor.C_Eq Go.Proofs.YtlhddgkbbdfacaaDoor.C_Hash Go.Proofs.YtlhddgkbbdfacaaDoor.C_Nx Go.Proofs.YtlhddgkbbdfacaaDoor.C_Sm Go.Proofs.YtlhddgkbbdfacaaDoor.C_Has

theorem z_zeroN26 : zeroL Tryd.prog 26 = some ((.int .i64 0 :: (.int .i64 0 :: ((List.replicate 32 (0 : UInt8)).map u8 ++ (.slice none 0 0 :: []))))) := by kernel_rfl
theorem z_call41 : callB Tryd.prog 41 = true := by kernel_rfl
theorem z_places26 : placesB Tryd.prog 26 = some [(0, 1), (1, 1), (2, 32), (34, 1)] := by kernel_rfl
theorem z_size26 : sizeB Tryd.prog 26 = some 35 := by kernel_rfl
theorem q_one_c2b32c1 {a0 a1 a3 : Value} {t2 : List UInt8} (o0 : a0.oneCell' = true) (o1 : a1.oneCell' = true) (o3 : a3.oneCell' = true) : (a0 :: a1 :: (t2.map u8 ++ (a3 :: []))).all (·.oneCell') = true := (one_c o0 (one_c o1 (one_b (one_c o3 one_n))))
theorem q_len_c2b32c1 {a0 a1 a3 : Value} {t2 : List UInt8} (h2 : t2.length = 32) : (a0 :: a1 :: (t2.map u8 ++ (a3 :: []))).length = 35 := (len_c (n := 34) (len_c (n := 33) (len_b (k := 32) (n := 1) h2 (len_c (n := 0) len_n))))
theorem q_spl_c2b32c1_0_c2b32c1 {a0 a1 a3 : Value} {t2 : List UInt8} {b0 b1 b3 : Value} {s2 : List UInt8} (h2 : t2.length = 32) (g2 : s2.length = 32) : spl (a0 :: a1 :: (t2.map u8 ++ (a3 :: []))) 0 (b0 :: b1 :: (s2.map u8 ++ (b3 :: []))) = b0 :: b1 :: (s2.map u8 ++ (b3 :: [])) := (spl_a (z := 35) (len_c (n := 34) (len_c (n := 33) (len_b (k := 32) (n := 1) h2 (len_c (n := 0) len_n)))) (len_c (n := 34) (len_c (n := 33) (len_b (k := 32) (n := 1) g2 (len_c (n := 0) len_n)))))
theorem z_agg26 : aggB Tryd.prog 26 = some true := by kernel_rfl
theorem z_field77_0 : fieldB Tryd.prog 77 0 = some 0 := by kernel_rfl
theorem z_agg36 : aggB Tryd.prog 36 = some false := by kernel_rfl
set_option maxRecDepth 100000 in
set_option maxHeartbeats 1000000 in
theorem tblockN (n : Int) (w : World) : Calls Tryd.prog 27 #[.pointer none, .int .i64 n] w (Gives (.tuple #[.agg (Inbox.BA.cells Inbox.BA.zero).toArray, .int .i64 1]) [] w) := by
  have hZl : Note.Z.length = 32 := Note.Z_len
  have lz32 : (List.replicate 32 (0 : UInt8)).length = 32 := List.length_replicate
  refine enterL (args := [.pointer none, .int .i64 n]) Tryd.func27 rfl rfl (l := []) (Sep.refl _) ?_
  intro a0 H0
  refine wp_seq ?_
  refine reg ?_
  refine st_alloc rfl z_zeroN26 rfl rfl rfl H0 ?_
  clear H0; intro b1 a1 wx1 H1
  refine plain (y_assign rfl rfl) rfl rfl rfl H1 ?_
  clear H1; intro a2 H2
  refine fin ?_
  refine then_n ?_
  refine wp_seq ?_
  refine wp_seq ?_
  refine reg ?_
  refine plain (y_move rfl rfl) rfl rfl rfl H2 ?_
  clear H2; intro a3 H3
  refine plain (y_move rfl rfl) rfl rfl rfl H3 ?_
  clear H3; intro a4 H4
  refine st_callg rfl z_call41 rfl rfl rfl rfl H4 (thasN n _) ?_
  clear H4; intro a5 wx5 H5
  refine plain (y_assign rfl rfl) rfl rfl rfl H5 ?_
  clear H5; intro a6 H6
  refine fin ?_
  refine then_n ?_
  refine wp_seq ?_
  refine reg ?_
  refine plain (y_move rfl rfl) rfl rfl rfl H6 ?_
  clear H6; intro a7 H7
  refine plain (y_neq rfl rfl rfl) rfl rfl rfl H7 ?_
  clear H7; intro a8 H8
  refine fin ?_
  refine then_n ?_
  refine cnd H8 rfl (fun hc9 => ?_) (fun hc9 => ?_) -- cond 1
  · skip
    try simp only [decide_eq_true_eq, decide_eq_false_iff_not, Bool.not_eq_true', Bool.not_eq_false', Bool.and_eq_true, Bool.not_eq_true, Bool.not_eq_false] at hc9
    refine wp_seq ?_
    refine reg ?_
    refine plain (y_build rfl z_zeroN26 z_places26 rfl lay_n) rfl rfl rfl H8 ?_
    clear H8; intro a10 H10
    refine plain (y_move rfl rfl) rfl rfl rfl H10 ?_
    clear H10; intro a11 H11
    refine st_storeN rfl z_size26 rfl rfl (agg_cells _) (by repeat (first | exact Uh | apply Ut)) (q_one_c2b32c1 rfl rfl rfl) (q_len_c2b32c1 (by assumption)) (q_len_c2b32c1 (by assumption)) (q_spl_c2b32c1_0_c2b32c1 (by assumption) (by assumption)) (by decide) rfl rfl H11 ?_
    clear H11; intro wx12 H12
    refine plain (y_assign rfl rfl) rfl rfl rfl H12 ?_
    clear H12; intro a13 H13
    refine fin ?_
    refine then_n ?_
    refine wp_ret ?_
    refine then_r ?_
    -- return 1
    refine retct rfl H13 rfl z_agg26 z_size26 (by repeat (first | exact Mh | apply Mt)) (q_len_c2b32c1 (by assumption)) rfl ?_
    exact ⟨_, [], rfl, ⟨rfl, rfl⟩, H13.sep.sub (List.nil_sublist _)⟩
  · (try simp only [decide_eq_true_eq, decide_eq_false_iff_not, Bool.not_eq_true', Bool.not_eq_false', Bool.and_eq_true, Bool.not_eq_true, Bool.not_eq_false] at hc9); (exfalso; first | exact hc9 rfl | omega)

end Go.Proofs.YtlhddgkbbdfacaaDoor.C_Blk

set_option linter.unusedVariables false
set_option linter.unusedSimpArgs false
namespace Go.Proofs.YtlhddgkbbdfacaaDoor.C_Up
open Go.Sx Go.RowKit Go.Proofs.YtlhddgkbbdfacaaDoor.C_Block Go.Proofs.YtlhddgkbbdfacaaDoor.C_Sum Go.Proofs.YtlhddgkbbdfacaaDoor.C_Ref Go.Proofs.YtlhddgkbbdfacaaDoor.C_RSum Go.Proofs.YtlhddgkbbdfacaaDoor.C_Num Go.Proofs.YtlhddgkbbdfacaaDoor.C_Lay Go.Proofs.YtlhddgkbbdfacaaDoor.C_Leaf Go.Proofs.YtlhddgkbbdfacaaDoor.C_Item Go.Proofs.YtlhddgkbbdfacaaDoor.C_RefI Go.Proofs.YtlhddgkbbdfacaaDoor.C_Eq Go.Proofs.YtlhddgkbbdfacaaDoor.C_Hash Go.Proofs.YtlhddgkbbdfacaaDoor.C_Nx Go.Proofs.YtlhddgkbbdfacaaDoor.C_Sm

theorem z_field77_0 : fieldB Tryd.prog 77 0 = some 0 := by kernel_rfl
theorem z_agg36 : aggB Tryd.prog 36 = some false := by kernel_rfl
theorem z_size26 : sizeB Tryd.prog 26 = some 35 := by kernel_rfl
theorem z_agg26 : aggB Tryd.prog 26 = some true := by kernel_rfl
theorem z_zero26 : zeroL Tryd.prog 26 = some ([.int .i64 0, .int .i64 0, .int .u8 0, .int .u8 0, .int .u8 0, .int .u8 0, .int .u8 0, .int .u8 0, .int .u8 0, .int .u8 0, .int .u8 0, .int .u8 0, .int .u8 0, .int .u8 0, .int .u8 0, .int .u8 0, .int .u8 0, .int .u8 0, .int .u8 0, .int .u8 0, .int .u8 0, .int .u8 0, .int .u8 0, .int .u8 0, .int .u8 0, .int .u8 0, .int .u8 0, .int .u8 0, .int .u8 0, .int .u8 0, .int .u8 0, .int .u8 0, .int .u8 0, .int .u8 0, .slice none 0 0]) := by kernel_rfl
theorem z_slice36 : sliceB Tryd.prog 36 = some (26, 35, 72) := by kernel_rfl
theorem z_notint36 : notIntB Tryd.prog 36 = true := by kernel_rfl

set_option maxRecDepth 100000 in
set_option maxHeartbeats 1000000 in
theorem tuptoN (n : Int) (w : World) : Calls Tryd.prog 17 #[.pointer none, .int .i64 n] w (Gives (.slice none 0 0) [] w) := by
  have lz32 : (List.replicate 32 (0 : UInt8)).length = 32 := List.length_replicate
  refine enterL (args := [.pointer none, .int .i64 n]) Tryd.func17 rfl rfl (l := []) (Sep.refl _) ?_
  intro a0 H0
  refine wp_seq ?_
  refine reg ?_
  refine plain (y_assign rfl rfl) rfl rfl rfl H0 ?_
  clear H0; intro a1 H1
  refine fin ?_
  refine then_n ?_
  refine wp_seq ?_
  refine reg ?_
  refine plain (y_assign rfl rfl) rfl rfl rfl H1 ?_
  clear H1; intro a2 H2
  refine fin ?_
  refine then_n ?_
  refine wp_seq ?_
  refine wp_seq ?_
  refine reg ?_
  refine plain (y_move rfl rfl) rfl rfl rfl H2 ?_
  clear H2; intro a3 H3
  refine plain (y_peql rfl Tryd.underlying33 rfl rfl) rfl rfl rfl H3 ?_
  clear H3; intro a4 H4
  refine fin ?_
  refine then_n ?_
  refine cnd_t H4 rfl ?_
  refine wp_seq ?_
  refine reg ?_
  refine plain (y_move rfl rfl) rfl rfl rfl H4 ?_
  clear H4; intro a6 H6
  refine plain (y_assign rfl rfl) rfl rfl rfl H6 ?_
  clear H6; intro a7 H7
  refine fin ?_
  refine then_n ?_
  refine wp_ret ?_
  refine then_r ?_
  -- return 1
  refine ret1 rfl H7 rfl ?_
  exact ⟨_, [], rfl, ⟨rfl, rfl⟩, H7.sep.sub (List.nil_sublist _)⟩

end Go.Proofs.YtlhddgkbbdfacaaDoor.C_Up

set_option linter.unusedVariables false
set_option linter.unusedSimpArgs false
namespace Go.Proofs.YtlhddgkbbdfacaaDoor.C_Same
open Go.Sx Go.RowKit Go.Proofs.YtlhddgkbbdfacaaDoor.C_Block Go.Proofs.YtlhddgkbbdfacaaDoor.C_Sum Go.Proofs.YtlhddgkbbdfacaaDoor.C_Ref Go.Proofs.YtlhddgkbbdfacaaDoor.C_RSum Go.Proofs.YtlhddgkbbdfacaaDoor.C_Num Go.Proofs.YtlhddgkbbdfacaaDoor.C_Lay Go.Proofs.YtlhddgkbbdfacaaDoor.C_Leaf Go.Proofs.YtlhddgkbbdfacaaDoor.C_Item Go.Proofs.YtlhddgkbbdfacaaDoor.C_RefI Go.Proofs.YtlhddgkbbdfacaaDoor.C_Eq Go.Proofs.YtlhddgkbbdfacaaDoor.C_Hash Go.Proofs.YtlhddgkbbdfacaaDoor.C_Nx Go.Proofs.YtlhddgkbbdfacaaDoor.C_Sm

theorem z_field26_0 : fieldB Tryd.prog 26 0 = some 0 := by kernel_rfl
theorem z_agg3 : aggB Tryd.prog 3 = some false := by kernel_rfl
theorem q_ix_c2b32c1_0 {a0 a1 a3 : Value} {t2 : List UInt8} : (a0 :: a1 :: (t2.map u8 ++ (a3 :: [])))[0]? = some a0 := ix_0
theorem z_field26_1 : fieldB Tryd.prog 26 1 = some 1 := by kernel_rfl
theorem q_ix_c2b32c1_1 {a0 a1 a3 : Value} {t2 : List UInt8} : (a0 :: a1 :: (t2.map u8 ++ (a3 :: [])))[1]? = some a1 := (ix_c (o := 0) ix_0)
theorem z_field26_2 : fieldB Tryd.prog 26 2 = some 2 := by kernel_rfl
theorem z_agg23 : aggB Tryd.prog 23 = some true := by kernel_rfl
theorem z_size23 : sizeB Tryd.prog 23 = some 32 := by kernel_rfl
theorem q_ld_c2b32c1_2_32 {a0 a1 a3 : Value} {t2 : List UInt8} (h2 : t2.length = 32) : ((a0 :: a1 :: (t2.map u8 ++ (a3 :: []))).drop 2).take 32 = t2.map u8 := (ld_c (o := 1) (ld_c (o := 0) (ld_h h2)))
theorem q_len_b32 {t0 : List UInt8} (h0 : t0.length = 32) : (t0.map u8).length = 32 := (len_e (k := 32) h0)
theorem z_size5 : sizeB Tryd.prog 5 = some 1 := by kernel_rfl
theorem z_field26_3 : fieldB Tryd.prog 26 3 = some 34 := by kernel_rfl
theorem z_agg24 : aggB Tryd.prog 24 = some false := by kernel_rfl
theorem q_ix_c2b32c1_34 {a0 a1 a3 : Value} {t2 : List UInt8} (h2 : t2.length = 32) : (a0 :: a1 :: (t2.map u8 ++ (a3 :: [])))[34]? = some a3 := (ix_c (o := 33) (ix_c (o := 32) (ix_b (k := 32) (o := 0) h2 rfl ix_0)))
theorem z_size69 : sizeB Tryd.prog 69 = some 4 := by kernel_rfl
theorem z_agg69 : aggB Tryd.prog 69 = some true := by kernel_rfl
theorem z_size26 : sizeB Tryd.prog 26 = some 35 := by kernel_rfl
theorem z_agg26 : aggB Tryd.prog 26 = some true := by kernel_rfl
theorem z_call28 : callB Tryd.prog 28 = true := by kernel_rfl

set_option maxRecDepth 100000 in
set_option maxHeartbeats 2000000 in
theorem rsame (x : Inbox.BA) (yA : Option Addr) (yc : Nat) (wx : Tree.W0 x) {w : World} (hR : Rd w x.A (Inbox.ic x.b.items)) (hR2 : Rd w yA (Inbox.ic x.b.items)) : Calls Tryd.prog 28 #[.agg (Inbox.BA.cells x).toArray, .agg (Inbox.BA.cells (⟨x.b, yA, yc⟩ : Inbox.BA)).toArray] w (Gives (.bool true) [] w) := by
  have hpl := wx.parent
  have hby := wx.bytes
  have lz32 : (List.replicate 32 (0 : UInt8)).length = 32 := List.length_replicate
  have lz0 := wx.parent
  refine enterL (args := [.agg (Inbox.BA.cells x).toArray, .agg (Inbox.BA.cells (⟨x.b, yA, yc⟩ : Inbox.BA)).toArray]) Tryd.func28 rfl rfl (l := []) (Sep.refl _) ?_
  intro a0 H0
  refine wp_seq ?_
  refine reg ?_
  refine st_box rfl rfl (agg_cells _) rfl rfl rfl H0 ?_
  clear H0; intro b1 a1 wx1 H1
  refine st_box rfl rfl (agg_cells _) rfl rfl rfl H1 ?_
  clear H1; intro b2 a2 wx2 H2
  refine plain (y_assign rfl rfl) rfl rfl rfl H2 ?_
  clear H2; intro a3 H3
  refine fin ?_
  refine then_n ?_
  refine wp_seq ?_
  refine wp_seq ?_
  refine reg ?_
  refine plain (y_fieldB rfl z_field26_0 rfl (by first | (simp only [Nat.zero_add, Nat.add_zero, Nat.reduceAdd]; rfl) | rfl)) rfl rfl rfl H3 ?_
  clear H3; intro a4 H4
  refine plain (y_loadB rfl z_agg3 rfl (by repeat (first | exact Mh | apply Mt)) q_ix_c2b32c1_0) rfl rfl rfl H4 ?_
  clear H4; intro a5 H5
  refine plain (y_fieldB rfl z_field26_0 rfl (by first | (simp only [Nat.zero_add, Nat.add_zero, Nat.reduceAdd]; rfl) | rfl)) rfl rfl rfl H5 ?_
  clear H5; intro a6 H6
  refine plain (y_loadB rfl z_agg3 rfl (by repeat (first | exact Mh | apply Mt)) q_ix_c2b32c1_0) rfl rfl rfl H6 ?_
  clear H6; intro a7 H7
  refine plain (y_neq rfl rfl rfl) rfl rfl rfl H7 ?_
  clear H7; intro a8 H8
  refine plain (y_move rfl rfl) rfl rfl rfl H8 ?_
  clear H8; intro a9 H9
  have H11 := H9.know (d := 11) (v := .bool false) rfl (congrArg Value.bool (decide_eq_false (fun z => z rfl)))
  clear H9
  refine plain (y_fieldB rfl z_field26_1 rfl (by first | (simp only [Nat.zero_add, Nat.add_zero, Nat.reduceAdd]; rfl) | rfl)) rfl rfl rfl H11 ?_
  clear H11; intro a12 H12
  refine plain (y_loadB rfl z_agg3 rfl (by repeat (first | exact Mh | apply Mt)) q_ix_c2b32c1_1) rfl rfl rfl H12 ?_
  clear H12; intro a13 H13
  refine plain (y_fieldB rfl z_field26_1 rfl (by first | (simp only [Nat.zero_add, Nat.add_zero, Nat.reduceAdd]; rfl) | rfl)) rfl rfl rfl H13 ?_
  clear H13; intro a14 H14
  refine plain (y_loadB rfl z_agg3 rfl (by repeat (first | exact Mh | apply Mt)) q_ix_c2b32c1_1) rfl rfl rfl H14 ?_
  clear H14; intro a15 H15
  refine plain (y_neq rfl rfl rfl) rfl rfl rfl H15 ?_
  clear H15; intro a16 H16
  refine plain (y_pick_f rfl rfl rfl) rfl rfl rfl H16 ?_
  clear H16; intro a17 H17
  refine plain (y_move rfl rfl) rfl rfl rfl H17 ?_
  clear H17; intro a18 H18
  have H20 := H18.know (d := 18) (v := .bool false) rfl (congrArg Value.bool (decide_eq_false (fun z => z rfl)))
  clear H18
  refine plain (y_fieldB rfl z_field26_2 rfl (by first | (simp only [Nat.zero_add, Nat.add_zero, Nat.reduceAdd]; rfl) | rfl)) rfl rfl rfl H20 ?_
  clear H20; intro a21 H21
  refine plain (y_loadAB rfl z_agg23 z_size23 rfl (by repeat (first | exact Mh | apply Mt)) (q_ld_c2b32c1_2_32 (by assumption)) (q_len_b32 (by assumption))) rfl rfl rfl H21 ?_
  clear H21; intro a22 H22
  refine plain (y_fieldB rfl z_field26_2 rfl (by first | (simp only [Nat.zero_add, Nat.add_zero, Nat.reduceAdd]; rfl) | rfl)) rfl rfl rfl H22 ?_
  clear H22; intro a23 H23
  refine plain (y_loadAB rfl z_agg23 z_size23 rfl (by repeat (first | exact Mh | apply Mt)) (q_ld_c2b32c1_2_32 (by assumption)) (q_len_b32 (by assumption))) rfl rfl rfl H23 ?_
  clear H23; intro a24 H24
  refine plain (y_hneq rfl Tryd.eqGuardType23 Tryd.underlying23 Tryd.underlying5 z_size5 rfl rfl (by assumption) (by assumption)) rfl rfl rfl H24 ?_
  clear H24; intro a25 H25
  refine plain (y_pick_f rfl rfl rfl) rfl rfl rfl H25 ?_
  clear H25; intro a26 H26
  refine plain (y_move rfl rfl) rfl rfl rfl H26 ?_
  clear H26; intro a27 H27
  have H29 := H27.know (d := 25) (v := .bool false) rfl (congrArg Value.bool (decide_eq_false (fun z => z rfl)))
  clear H27
  refine plain (y_fieldB rfl z_field26_3 rfl (by first | (simp only [Nat.zero_add, Nat.add_zero, Nat.reduceAdd]; rfl) | rfl)) rfl rfl rfl H29 ?_
  clear H29; intro a30 H30
  refine plain (y_loadB rfl z_agg24 rfl (by repeat (first | exact Mh | apply Mt)) (q_ix_c2b32c1_34 (by assumption))) rfl rfl rfl H30 ?_
  clear H30; intro a31 H31
  refine plain (y_len rfl Tryd.underlying24 rfl) rfl rfl rfl H31 ?_
  clear H31; intro a32 H32
  refine plain (y_fieldB rfl z_field26_3 rfl (by first | (simp only [Nat.zero_add, Nat.add_zero, Nat.reduceAdd]; rfl) | rfl)) rfl rfl rfl H32 ?_
  clear H32; intro a33 H33
  refine plain (y_loadB rfl z_agg24 rfl (by repeat (first | exact Mh | apply Mt)) (q_ix_c2b32c1_34 (by assumption))) rfl rfl rfl H33 ?_
  clear H33; intro a34 H34
  refine plain (y_len rfl Tryd.underlying24 rfl) rfl rfl rfl H34 ?_
  clear H34; intro a35 H35
  refine plain (y_neq rfl rfl rfl) rfl rfl rfl H35 ?_
  clear H35; intro a36 H36
  refine plain (y_pick_f rfl rfl rfl) rfl rfl rfl H36 ?_
  clear H36; intro a37 H37
  refine fin ?_
  refine then_n ?_
  refine cnd H37 rfl (fun hc38 => ?_) (fun hc38 => ?_) -- cond 1
  · (try simp only [decide_eq_true_eq, decide_eq_false_iff_not, Bool.not_eq_true', Bool.not_eq_false', Bool.and_eq_true, Bool.not_eq_true, Bool.not_eq_false] at hc38); (exfalso; first | exact hc38 rfl | exact hc38 trivial | simp at hc38)
  · skip
    try simp only [decide_eq_true_eq, decide_eq_false_iff_not, Bool.not_eq_true', Bool.not_eq_false', Bool.and_eq_true, Bool.not_eq_true, Bool.not_eq_false] at hc38
    refine wp_skip ?_
    refine then_n ?_
    refine wp_seq ?_
    refine wp_seq ?_
    refine reg ?_
    refine plain (y_assign rfl rfl) rfl rfl rfl H37 ?_
    clear H37; intro a39 H39
    refine fin ?_
    refine then_n ?_
    refine wp_block ?_
    refine loop (ι := Nat) (fun k => [(2, .pointer (some ⟨b1, 0, none⟩)), (3, .pointer (some ⟨b2, 0, none⟩)), (5, .int .i64 (k : Int))]) (fun k => [It.blk b2 26 (Inbox.BA.cells ⟨x.b, yA, yc⟩), It.blk b1 26 (Inbox.BA.cells x)]) (fun k => k ≤ x.b.items.length) (fun k => x.b.items.length - k) (0) (Nat.zero_le _) (H39.weak ⟨rfl, rfl, rfl, trivial⟩ rfl) ?_
    clear H39; intro k a40 wx40 hok40 H40
    have hok := hok40
    refine wp_seq ?_
    refine wp_seq ?_
    refine reg ?_
    refine plain (y_move rfl rfl) rfl rfl rfl H40 ?_
    clear H40; intro a41 H41
    refine plain (y_fieldB rfl z_field26_3 rfl (by first | (simp only [Nat.zero_add, Nat.add_zero, Nat.reduceAdd]; rfl) | rfl)) rfl rfl rfl H41 ?_
    clear H41; intro a42 H42
    refine plain (y_loadB rfl z_agg24 rfl (by repeat (first | exact Mh | apply Mt)) (q_ix_c2b32c1_34 (by assumption))) rfl rfl rfl H42 ?_
    clear H42; intro a43 H43
    refine plain (y_len rfl Tryd.underlying24 rfl) rfl rfl rfl H43 ?_
    clear H43; intro a44 H44
    refine plain (y_lss rfl rfl rfl) rfl rfl rfl H44 ?_
    clear H44; intro a45 H45
    refine fin ?_
    refine then_n ?_
    refine cnd H45 rfl (fun hc46 => ?_) (fun hc46 => ?_) -- cond 2
    · skip
      try simp only [decide_eq_true_eq, decide_eq_false_iff_not, Bool.not_eq_true', Bool.not_eq_false', Bool.and_eq_true, Bool.not_eq_true, Bool.not_eq_false] at hc46
      refine wp_skip ?_
      refine then_n ?_
      refine wp_seq ?_
      refine wp_block ?_
      refine wp_seq ?_
      have hkl : k < x.b.items.length := by omega
      refine qreg (by kernel_rfl) (by kernel_rfl) H45 ?_
      have F47 := H45.fr
      clear H45
      refine qplain (y_fieldB rfl z_field26_3 rfl (by first | (simp only [Nat.zero_add, Nat.add_zero, Nat.reduceAdd]; rfl) | rfl)) rfl rfl rfl F47 ?_
      clear F47; intro a48 H48
      refine qplain (y_loadB rfl z_agg24 rfl (by repeat (first | exact Mh | apply Mt)) (q_ix_c2b32c1_34 (by assumption))) rfl rfl rfl H48 ?_
      clear H48; intro a49 H49
      refine qplain (y_move rfl rfl) rfl rfl rfl H49 ?_
      clear H49; intro a50 H50
      refine qplain (y_ixR rfl Tryd.underlying24 z_size69 rfl rfl (by omega) (by omega) (rd_old hR (by simp)) (by rw [Inbox.ic_len]; omega)) rfl rfl rfl H50 ?_
      clear H50; intro a51 H51
      refine qplain (y_loadAS rfl z_agg69 z_size69 rfl (rd_old hR (by simp)) (show _ = Note.Item.cells (x.b.items.getD k Note.Item.zero) from Inbox.ic_take k (by omega)) rfl (by decide)) rfl rfl rfl H51 ?_
      clear H51; intro a52 H52
      refine qplain (y_fieldB rfl z_field26_3 rfl (by first | (simp only [Nat.zero_add, Nat.add_zero, Nat.reduceAdd]; rfl) | rfl)) rfl rfl rfl H52 ?_
      clear H52; intro a53 H53
      refine qplain (y_loadB rfl z_agg24 rfl (by repeat (first | exact Mh | apply Mt)) (q_ix_c2b32c1_34 (by assumption))) rfl rfl rfl H53 ?_
      clear H53; intro a54 H54
      refine qplain (y_move rfl rfl) rfl rfl rfl H54 ?_
      clear H54; intro a55 H55
      refine qplain (y_ixR rfl Tryd.underlying24 z_size69 rfl rfl (by omega) (by omega) (rd_old hR2 (by simp)) (by rw [Inbox.ic_len]; omega)) rfl rfl rfl H55 ?_
      clear H55; intro a56 H56
      refine qplain (y_loadAS rfl z_agg69 z_size69 rfl (rd_old hR2 (by simp)) (show _ = Note.Item.cells (x.b.items.getD k Note.Item.zero) from Inbox.ic_take k (by omega)) rfl (by decide)) rfl rfl rfl H56 ?_
      clear H56; intro a57 H57
      refine qplain (y_tneq rfl (by kernel_rfl) rfl rfl (eqr_Item (x.b.items.getD k Note.Item.zero) (x.b.items.getD k Note.Item.zero))) rfl rfl rfl H57 ?_
      clear H57; intro a58 H58
      refine qfin H58 ?_
      clear H58; intro wx59 H59
      refine then_n ?_
      refine cnd H59 rfl (fun hc60 => ?_) (fun hc60 => ?_) -- cond 3
      · (try simp only [decide_eq_true_eq, decide_eq_false_iff_not, Bool.not_eq_true', Bool.not_eq_false', Bool.and_eq_true, Bool.not_eq_true, Bool.not_eq_false] at hc60); (exfalso; first | exact hc60 rfl | exact hc60 trivial | simp at hc60)
      · skip
        try simp only [decide_eq_true_eq, decide_eq_false_iff_not, Bool.not_eq_true', Bool.not_eq_false', Bool.and_eq_true, Bool.not_eq_true, Bool.not_eq_false] at hc60
        refine wp_skip ?_
        refine inb_n ?_
        refine then_n ?_
        refine reg ?_
        refine plain (y_move rfl rfl) rfl rfl rfl H59 ?_
        clear H59; intro a61 H61
        refine plain (y_add rfl rfl rfl (by first | exact w64 (by omega) (by omega) | rfl)) rfl rfl rfl H61 ?_
        clear H61; intro a62 H62
        refine plain (y_assign rfl rfl) rfl rfl rfl H62 ?_
        clear H62; intro a63 H63
        refine fin ?_
        refine then_n ?_
        refine ⟨k + 1, by omega, by omega, H63.weak ⟨rfl, rfl, fi rfl (by omega), trivial⟩ rfl⟩
    · skip
      try simp only [decide_eq_true_eq, decide_eq_false_iff_not, Bool.not_eq_true', Bool.not_eq_false', Bool.and_eq_true, Bool.not_eq_true, Bool.not_eq_false] at hc46
      refine wp_exit ?_
      refine then_x ?_
      refine then_x ?_
      refine inb_hit ?_
      refine then_n ?_
      refine wp_seq ?_
      refine reg ?_
      refine plain (y_assign rfl rfl) rfl rfl rfl H45 ?_
      clear H45; intro a64 H64
      refine fin ?_
      refine then_n ?_
      refine wp_ret ?_
      -- return 1
      refine ret1 rfl H64 rfl ?_
      exact ⟨_, [], rfl, ⟨rfl, rfl⟩, H64.sep.sub (List.nil_sublist _)⟩
end Go.Proofs.YtlhddgkbbdfacaaDoor.C_Same

set_option linter.unusedVariables false
set_option linter.unusedSimpArgs false
namespace Go.Proofs.YtlhddgkbbdfacaaDoor.C_L2
open Go.Sx Go.RowKit Go.Proofs.YtlhddgkbbdfacaaDoor.C_Block Go.Proofs.YtlhddgkbbdfacaaDoor.C_Sum Go.Proofs.YtlhddgkbbdfacaaDoor.C_Ref Go.Proofs.YtlhddgkbbdfacaaDoor.C_RSum Go.Proofs.YtlhddgkbbdfacaaDoor.C_Num Go.Proofs.YtlhddgkbbdfacaaDoor.C_Lay Go.Proofs.YtlhddgkbbdfacaaDoor.C_Leaf Go.Proofs.YtlhddgkbbdfacaaDoor.C_Item Go.Proofs.YtlhddgkbbdfacaaDoor.C_RefI Go.Proofs.YtlhddgkbbdfacaaDoor.C_Eq Go.Proofs.YtlhddgkbbdfacaaDoor.C_Hash Go.Proofs.YtlhddgkbbdfacaaDoor.C_Nx Go.Proofs.YtlhddgkbbdfacaaDoor.C_Sm Go.Proofs.YtlhddgkbbdfacaaDoor.C_Nl Go.Proofs.YtlhddgkbbdfacaaDoor.C_Aw Go.Proofs.YtlhddgkbbdfacaaDoor.C_Has Go.Proofs.YtlhddgkbbdfacaaDoor.C_Blk Go.Proofs.YtlhddgkbbdfacaaDoor.C_Up Go.Proofs.YtlhddgkbbdfacaaDoor.C_Same Go.Proofs.YtlhddgkbbdfacaaDoor.C_Ea Go.Proofs.YtlhddgkbbdfacaaDoor.C_Fd

theorem z_field39_2 : fieldB Tryd.prog 39 2 = some 2 := by kernel_rfl
theorem z_agg3 : aggB Tryd.prog 3 = some false := by kernel_rfl
theorem q_ix_c4_2 {a0 a1 a2 a3 : Value} : (a0 :: a1 :: a2 :: a3 :: [])[2]? = some a2 := (ix_c (o := 1) (ix_c (o := 0) ix_0))
theorem z_call13 : callB Tryd.prog 13 = true := by kernel_rfl
theorem z_zeroN23 : zeroL Tryd.prog 23 = some ((List.replicate 32 (0 : UInt8)).map u8) := by kernel_rfl
theorem z_size23 : sizeB Tryd.prog 23 = some 32 := by kernel_rfl
theorem q_one_b32 {t0 : List UInt8} : (t0.map u8).all (·.oneCell') = true := (one_u8 _)
theorem q_len_b32 {t0 : List UInt8} (h0 : t0.length = 32) : (t0.map u8).length = 32 := (len_e (k := 32) h0)
theorem q_spl_b32_0_b32 {t0 : List UInt8} {s0 : List UInt8} (h0 : t0.length = 32) (g0 : s0.length = 32) : spl (t0.map u8) 0 (s0.map u8) = s0.map u8 := (spl_a (z := 32) (len_e (k := 32) h0) (len_e (k := 32) g0))
theorem z_call27 : callB Tryd.prog 27 = true := by kernel_rfl
theorem z_zeroN26 : zeroL Tryd.prog 26 = some ((.int .i64 0 :: (.int .i64 0 :: ((List.replicate 32 (0 : UInt8)).map u8 ++ (.slice none 0 0 :: []))))) := by kernel_rfl
theorem z_size26 : sizeB Tryd.prog 26 = some 35 := by kernel_rfl
theorem q_one_c2b32c1 {a0 a1 a3 : Value} {t2 : List UInt8} (o0 : a0.oneCell' = true) (o1 : a1.oneCell' = true) (o3 : a3.oneCell' = true) : (a0 :: a1 :: (t2.map u8 ++ (a3 :: []))).all (·.oneCell') = true := (one_c o0 (one_c o1 (one_b (one_c o3 one_n))))
theorem q_len_c2b32c1 {a0 a1 a3 : Value} {t2 : List UInt8} (h2 : t2.length = 32) : (a0 :: a1 :: (t2.map u8 ++ (a3 :: []))).length = 35 := (len_c (n := 34) (len_c (n := 33) (len_b (k := 32) (n := 1) h2 (len_c (n := 0) len_n))))
theorem q_spl_c2b32c1_0_c2b32c1 {a0 a1 a3 : Value} {t2 : List UInt8} {b0 b1 b3 : Value} {s2 : List UInt8} (h2 : t2.length = 32) (g2 : s2.length = 32) : spl (a0 :: a1 :: (t2.map u8 ++ (a3 :: []))) 0 (b0 :: b1 :: (s2.map u8 ++ (b3 :: []))) = b0 :: b1 :: (s2.map u8 ++ (b3 :: [])) := (spl_a (z := 35) (len_c (n := 34) (len_c (n := 33) (len_b (k := 32) (n := 1) h2 (len_c (n := 0) len_n)))) (len_c (n := 34) (len_c (n := 33) (len_b (k := 32) (n := 1) g2 (len_c (n := 0) len_n)))))
theorem z_call22 : callB Tryd.prog 22 = true := by kernel_rfl
theorem z_agg23 : aggB Tryd.prog 23 = some true := by kernel_rfl
theorem q_ld_b32_0_32 {t0 : List UInt8} (h0 : t0.length = 32) : ((t0.map u8).drop 0).take 32 = t0.map u8 := (ld_a (len_e (k := 32) h0))
theorem z_call29 : callB Tryd.prog 29 = true := by kernel_rfl
theorem z_call11 : callB Tryd.prog 11 = true := by kernel_rfl
theorem z_size5 : sizeB Tryd.prog 5 = some 1 := by kernel_rfl
theorem z_field39_1 : fieldB Tryd.prog 39 1 = some 1 := by kernel_rfl
theorem q_ix_c4_1 {a0 a1 a2 a3 : Value} : (a0 :: a1 :: a2 :: a3 :: [])[1]? = some a1 := (ix_c (o := 0) ix_0)
theorem z_field39_3 : fieldB Tryd.prog 39 3 = some 3 := by kernel_rfl
theorem z_agg37 : aggB Tryd.prog 37 = some false := by kernel_rfl
theorem q_ix_c4_3 {a0 a1 a2 a3 : Value} : (a0 :: a1 :: a2 :: a3 :: [])[3]? = some a3 := (ix_c (o := 2) (ix_c (o := 1) (ix_c (o := 0) ix_0)))
theorem z_call15 : callB Tryd.prog 15 = true := by kernel_rfl
theorem z_agg26 : aggB Tryd.prog 26 = some true := by kernel_rfl
theorem q_ld_c2b32c1_0_35 {a0 a1 a3 : Value} {t2 : List UInt8} (h2 : t2.length = 32) : ((a0 :: a1 :: (t2.map u8 ++ (a3 :: []))).drop 0).take 35 = a0 :: a1 :: (t2.map u8 ++ (a3 :: [])) := (ld_a (len_c (n := 34) (len_c (n := 33) (len_b (k := 32) (n := 1) h2 (len_c (n := 0) len_n)))))
theorem z_places26 : placesB Tryd.prog 26 = some [(0, 1), (1, 1), (2, 32), (34, 1)] := by kernel_rfl
theorem z_call28 : callB Tryd.prog 28 = true := by kernel_rfl
theorem z_call21 : callB Tryd.prog 21 = true := by kernel_rfl
theorem z_call18 : callB Tryd.prog 18 = true := by kernel_rfl
theorem z_call20 : callB Tryd.prog 20 = true := by kernel_rfl
theorem z_call17 : callB Tryd.prog 17 = true := by kernel_rfl

set_option maxRecDepth 100000 in
set_option maxHeartbeats 4000000 in
theorem treeNone (x : Tree.Act) (n : Int) (hn : Note.I64 n) {w : World} (wx : Tree.Act.Wf w x) (hG : Glob 0 Sha.K w) : Calls Tryd.prog 8 #[.agg (Tree.Act.cells x).toArray, .int .i64 n] w (Gives (.bool true) [] w) := by
  have hZl : Note.Z.length = 32 := Note.Z_len
  have wz := Tree.w0_zero.parent
  have lz32 : (List.replicate 32 (0 : UInt8)).length = 32 := List.length_replicate
  refine enterL (args := [.agg (Tree.Act.cells x).toArray, .int .i64 n]) Tryd.func8 rfl rfl (l := []) (Sep.refl _) ?_
  intro a0 H0
  refine wp_seq ?_
  refine reg ?_
  refine st_box rfl rfl (agg_cells _) rfl rfl rfl H0 ?_
  clear H0; intro b1 a1 wx1 H1
  refine plain (y_assign rfl rfl) rfl rfl rfl H1 ?_
  clear H1; intro a2 H2
  refine fin ?_
  refine then_n ?_
  refine wp_seq ?_
  refine reg ?_
  refine plain (y_assign rfl rfl) rfl rfl rfl H2 ?_
  clear H2; intro a3 H3
  refine fin ?_
  refine then_n ?_
  refine wp_seq ?_
  refine reg ?_
  refine plain (y_move rfl rfl) rfl rfl rfl H3 ?_
  clear H3; intro a4 H4
  refine plain (y_fieldB rfl z_field39_2 rfl (by first | (simp only [Nat.zero_add, Nat.add_zero, Nat.reduceAdd]; rfl) | rfl)) rfl rfl rfl H4 ?_
  clear H4; intro a5 H5
  refine plain (y_loadB rfl z_agg3 rfl (by repeat (first | exact Mh | apply Mt)) q_ix_c4_2) rfl rfl rfl H5 ?_
  clear H5; intro a6 H6
  refine st_callg rfl z_call13 rfl rfl rfl rfl H6 (tmineN _ _ _ _ _) ?_
  clear H6; intro a7 wx7 H7
  refine plain (y_move rfl rfl) rfl rfl rfl H7 ?_
  clear H7; intro a8 H8
  refine plain (y_extract rfl rfl rfl) rfl rfl rfl H8 ?_
  clear H8; intro a9 H9
  refine plain (y_extract rfl rfl rfl) rfl rfl rfl H9 ?_
  clear H9; intro a10 H10
  refine st_alloc rfl z_zeroN23 rfl rfl rfl H10 ?_
  clear H10; intro b11 a11 wx11 H11
  refine st_storeN rfl z_size23 rfl rfl (agg_cells _) (by repeat (first | exact Uh | apply Ut)) q_one_b32 (q_len_b32 (by assumption)) (q_len_b32 (by assumption)) (q_spl_b32_0_b32 (by assumption) (by assumption)) (by decide) rfl rfl H11 ?_
  clear H11; intro wx12 H12
  refine plain (y_assign rfl rfl) rfl rfl rfl H12 ?_
  clear H12; intro a13 H13
  refine fin ?_
  refine then_n ?_
  refine wp_seq ?_
  refine reg ?_
  refine plain (y_move rfl rfl) rfl rfl rfl H13 ?_
  clear H13; intro a14 H14
  refine plain (y_move rfl rfl) rfl rfl rfl H14 ?_
  clear H14; intro a15 H15
  refine st_callg rfl z_call27 rfl rfl rfl rfl H15 (tblockN n _) ?_
  clear H15; intro a16 wx16 H16
  refine plain (y_move rfl rfl) rfl rfl rfl H16 ?_
  clear H16; intro a17 H17
  refine plain (y_extract rfl rfl rfl) rfl rfl rfl H17 ?_
  clear H17; intro a18 H18
  refine plain (y_extract rfl rfl rfl) rfl rfl rfl H18 ?_
  clear H18; intro a19 H19
  refine st_alloc rfl z_zeroN26 rfl rfl rfl H19 ?_
  clear H19; intro b20 a20 wx20 H20
  refine st_storeN rfl z_size26 rfl rfl (agg_cells _) (by repeat (first | exact Uh | apply Ut)) (q_one_c2b32c1 rfl rfl rfl) (q_len_c2b32c1 (by assumption)) (q_len_c2b32c1 (by assumption)) (q_spl_c2b32c1_0_c2b32c1 (by assumption) (by assumption)) (by decide) rfl rfl H20 ?_
  clear H20; intro wx21 H21
  refine plain (y_assign rfl rfl) rfl rfl rfl H21 ?_
  clear H21; intro a22 H22
  refine fin ?_
  refine then_n ?_
  refine wp_seq ?_
  refine reg ?_
  refine plain (y_move rfl rfl) rfl rfl rfl H22 ?_
  clear H22; intro a23 H23
  refine plain (y_move rfl rfl) rfl rfl rfl H23 ?_
  clear H23; intro a24 H24
  refine st_callg rfl z_call22 rfl rfl rfl rfl H24 (thashnN n _) ?_
  clear H24; intro a25 wx25 H25
  refine plain (y_move rfl rfl) rfl rfl rfl H25 ?_
  clear H25; intro a26 H26
  refine plain (y_extract rfl rfl rfl) rfl rfl rfl H26 ?_
  clear H26; intro a27 H27
  refine plain (y_extract rfl rfl rfl) rfl rfl rfl H27 ?_
  clear H27; intro a28 H28
  refine st_alloc rfl z_zeroN23 rfl rfl rfl H28 ?_
  clear H28; intro b29 a29 wx29 H29
  refine st_storeN rfl z_size23 rfl rfl (agg_cells _) (by repeat (first | exact Uh | apply Ut)) q_one_b32 (q_len_b32 (by assumption)) (q_len_b32 (by assumption)) (q_spl_b32_0_b32 (by assumption) (by assumption)) (by decide) rfl rfl H29 ?_
  clear H29; intro wx30 H30
  refine plain (y_assign rfl rfl) rfl rfl rfl H30 ?_
  clear H30; intro a31 H31
  refine fin ?_
  refine then_n ?_
  refine wp_seq ?_
  refine reg ?_
  refine plain (y_move rfl rfl) rfl rfl rfl H31 ?_
  clear H31; intro a32 H32
  refine plain (y_loadAB rfl z_agg23 z_size23 rfl (by repeat (first | exact Mh | apply Mt)) (q_ld_b32_0_32 (by assumption)) (q_len_b32 (by assumption))) rfl rfl rfl H32 ?_
  clear H32; intro a33 H33
  refine st_callg rfl z_call29 rfl rfl rfl rfl H33 (tfindN Note.Z Note.Z_len _) ?_
  clear H33; intro a34 wx34 H34
  refine plain (y_move rfl rfl) rfl rfl rfl H34 ?_
  clear H34; intro a35 H35
  refine plain (y_extract rfl rfl rfl) rfl rfl rfl H35 ?_
  clear H35; intro a36 H36
  refine plain (y_extract rfl rfl rfl) rfl rfl rfl H36 ?_
  clear H36; intro a37 H37
  refine plain (y_assign rfl rfl) rfl rfl rfl H37 ?_
  clear H37; intro a38 H38
  refine plain (y_assign rfl rfl) rfl rfl rfl H38 ?_
  clear H38; intro a39 H39
  refine fin ?_
  refine then_n ?_
  refine wp_seq ?_
  refine reg ?_
  refine st_callg rfl z_call11 rfl rfl rfl rfl H39 (awake (hG.frm H39.sep.frm (by simp))) ?_
  clear H39; intro a40 wx40 H40
  refine plain (y_move rfl rfl) rfl rfl rfl H40 ?_
  clear H40; intro a41 H41
  have H43 := H41.know (d := 40) (v := .bool true) rfl ((by first | rfl | exact congrArg Value.bool (decide_eq_true (by first | assumption | rfl | decide | omega))))
  clear H41
  refine plain (y_loadAB rfl z_agg23 z_size23 rfl (by repeat (first | exact Mh | apply Mt)) (q_ld_b32_0_32 (by assumption)) (q_len_b32 (by assumption))) rfl rfl rfl H43 ?_
  clear H43; intro a44 H44
  refine plain (y_buildA rfl z_zeroN23 Tryd.underlying23 z_size5 rfl lay_n) rfl rfl rfl H44 ?_
  clear H44; intro a45 H45
  refine plain (y_heql rfl Tryd.eqGuardType23 Tryd.underlying23 Tryd.underlying5 z_size5 rfl rfl (by assumption) (by assumption)) rfl rfl rfl H45 ?_
  clear H45; intro a46 H46
  refine plain (y_pick_t rfl rfl rfl) rfl rfl rfl H46 ?_
  clear H46; intro a47 H47
  refine plain (y_move rfl rfl) rfl rfl rfl H47 ?_
  clear H47; intro a48 H48
  have H50 := H48.know (d := 45) (v := .bool true) rfl ((by first | rfl | exact congrArg Value.bool (decide_eq_true (by first | assumption | rfl | decide | omega))))
  clear H48
  refine plain (y_loadAB rfl z_agg23 z_size23 rfl (by repeat (first | exact Mh | apply Mt)) (q_ld_b32_0_32 (by assumption)) (q_len_b32 (by assumption))) rfl rfl rfl H50 ?_
  clear H50; intro a51 H51
  refine plain (y_buildA rfl z_zeroN23 Tryd.underlying23 z_size5 rfl lay_n) rfl rfl rfl H51 ?_
  clear H51; intro a52 H52
  refine plain (y_heql rfl Tryd.eqGuardType23 Tryd.underlying23 Tryd.underlying5 z_size5 rfl rfl (by assumption) (by assumption)) rfl rfl rfl H52 ?_
  clear H52; intro a53 H53
  refine plain (y_pick_t rfl rfl rfl) rfl rfl rfl H53 ?_
  clear H53; intro a54 H54
  refine plain (y_move rfl rfl) rfl rfl rfl H54 ?_
  clear H54; intro a55 H55
  have H57 := H55.know (d := 50) (v := .bool true) rfl ((by first | rfl | exact congrArg Value.bool (decide_eq_true (by first | assumption | rfl | decide | omega))))
  clear H55
  refine plain (y_move rfl rfl) rfl rfl rfl H57 ?_
  clear H57; intro a58 H58
  refine plain (y_eql rfl rfl rfl) rfl rfl rfl H58 ?_
  clear H58; intro a59 H59
  refine plain (y_pick_t rfl rfl rfl) rfl rfl rfl H59 ?_
  clear H59; intro a60 H60
  refine plain (y_move rfl rfl) rfl rfl rfl H60 ?_
  clear H60; intro a61 H61
  have H63 := H61.know (d := 54) (v := .bool true) rfl ((by first | rfl | exact congrArg Value.bool (decide_eq_true (by first | assumption | rfl | decide | omega))))
  clear H61
  refine plain (y_move rfl rfl) rfl rfl rfl H63 ?_
  clear H63; intro a64 H64
  refine plain (y_eql rfl rfl rfl) rfl rfl rfl H64 ?_
  clear H64; intro a65 H65
  refine plain (y_pick_t rfl rfl rfl) rfl rfl rfl H65 ?_
  clear H65; intro a66 H66
  refine plain (y_move rfl rfl) rfl rfl rfl H66 ?_
  clear H66; intro a67 H67
  have H69 := H67.know (d := 58) (v := .bool true) rfl ((by first | rfl | exact congrArg Value.bool (decide_eq_true (by first | assumption | rfl | decide | omega))))
  clear H67
  refine plain (y_move rfl rfl) rfl rfl rfl H69 ?_
  clear H69; intro a70 H70
  refine plain (y_eql rfl rfl rfl) rfl rfl rfl H70 ?_
  clear H70; intro a71 H71
  refine plain (y_pick_t rfl rfl rfl) rfl rfl rfl H71 ?_
  clear H71; intro a72 H72
  refine plain (y_move rfl rfl) rfl rfl rfl H72 ?_
  clear H72; intro a73 H73
  have H75 := H73.know (d := 62) (v := .bool true) rfl ((by first | rfl | exact congrArg Value.bool (decide_eq_true (by first | assumption | rfl | decide | omega))))
  clear H73
  refine plain (y_move rfl rfl) rfl rfl rfl H75 ?_
  clear H75; intro a76 H76
  refine plain (y_fieldB rfl z_field39_1 rfl (by first | (simp only [Nat.zero_add, Nat.add_zero, Nat.reduceAdd]; rfl) | rfl)) rfl rfl rfl H76 ?_
  clear H76; intro a77 H77
  refine plain (y_loadB rfl z_agg3 rfl (by repeat (first | exact Mh | apply Mt)) q_ix_c4_1) rfl rfl rfl H77 ?_
  clear H77; intro a78 H78
  refine plain (y_fieldB rfl z_field39_3 rfl (by first | (simp only [Nat.zero_add, Nat.add_zero, Nat.reduceAdd]; rfl) | rfl)) rfl rfl rfl H78 ?_
  clear H78; intro a79 H79
  refine plain (y_loadB rfl z_agg37 rfl (by repeat (first | exact Mh | apply Mt)) q_ix_c4_3) rfl rfl rfl H79 ?_
  clear H79; intro a80 H80
  refine plain (y_fieldB rfl z_field39_2 rfl (by first | (simp only [Nat.zero_add, Nat.add_zero, Nat.reduceAdd]; rfl) | rfl)) rfl rfl rfl H80 ?_
  clear H80; intro a81 H81
  refine plain (y_loadB rfl z_agg3 rfl (by repeat (first | exact Mh | apply Mt)) q_ix_c4_2) rfl rfl rfl H81 ?_
  clear H81; intro a82 H82
  refine st_callg rfl z_call15 rfl rfl rfl rfl H82 (tturnN _ _ _ _ _ _) ?_
  clear H82; intro a83 wx83 H83
  refine plain (y_eql rfl rfl rfl) rfl rfl rfl H83 ?_
  clear H83; intro a84 H84
  refine plain (y_pick_t rfl rfl rfl) rfl rfl rfl H84 ?_
  clear H84; intro a85 H85
  refine plain (y_move rfl rfl) rfl rfl rfl H85 ?_
  clear H85; intro a86 H86
  have H88 := H86.know (d := 73) (v := .bool true) rfl ((by first | rfl | exact congrArg Value.bool (decide_eq_true (by first | assumption | rfl | decide | omega))))
  clear H86
  refine plain (y_loadAB rfl z_agg26 z_size26 rfl (by repeat (first | exact Mh | apply Mt)) (q_ld_c2b32c1_0_35 (by assumption)) (q_len_c2b32c1 (by assumption))) rfl rfl rfl H88 ?_
  clear H88; intro a89 H89
  refine plain (y_build rfl z_zeroN26 z_places26 rfl lay_n) rfl rfl rfl H89 ?_
  clear H89; intro a90 H90
  refine st_callg rfl z_call28 rfl rfl rfl rfl H90 (rsame Inbox.BA.zero none 0 Tree.w0_zero (Rd.nil _ _) (Rd.nil _ _)) ?_
  clear H90; intro a91 wx91 H91
  refine plain (y_pick_t rfl rfl rfl) rfl rfl rfl H91 ?_
  clear H91; intro a92 H92
  refine plain (y_move rfl rfl) rfl rfl rfl H92 ?_
  clear H92; intro a93 H93
  have H95 := H93.know (d := 78) (v := .bool true) rfl ((by first | rfl | exact congrArg Value.bool (decide_eq_true (by first | assumption | rfl | decide | omega))))
  clear H93
  refine plain (y_move rfl rfl) rfl rfl rfl H95 ?_
  clear H95; intro a96 H96
  refine plain (y_eql rfl rfl rfl) rfl rfl rfl H96 ?_
  clear H96; intro a97 H97
  refine plain (y_pick_t rfl rfl rfl) rfl rfl rfl H97 ?_
  clear H97; intro a98 H98
  refine plain (y_move rfl rfl) rfl rfl rfl H98 ?_
  clear H98; intro a99 H99
  have H101 := H99.know (d := 82) (v := .bool true) rfl ((by first | rfl | exact congrArg Value.bool (decide_eq_true (by first | assumption | rfl | decide | omega))))
  clear H99
  refine plain (y_move rfl rfl) rfl rfl rfl H101 ?_
  clear H101; intro a102 H102
  refine plain ((by first | exact y_not_d rfl rfl | exact y_not rfl rfl)) rfl rfl rfl H102 ?_
  clear H102; intro a103 H103
  refine plain (y_pick_t rfl rfl rfl) rfl rfl rfl H103 ?_
  clear H103; intro a104 H104
  refine plain (y_move rfl rfl) rfl rfl rfl H104 ?_
  clear H104; intro a105 H105
  have H107 := H105.know (d := 86) (v := .bool true) rfl ((by first | rfl | exact congrArg Value.bool (decide_eq_true (by first | assumption | rfl | decide | omega))))
  clear H105
  refine plain (y_move rfl rfl) rfl rfl rfl H107 ?_
  clear H107; intro a108 H108
  refine st_callg rfl z_call21 rfl rfl rfl rfl H108 (theightN _) ?_
  clear H108; intro a109 wx109 H109
  refine plain (y_move rfl rfl) rfl rfl rfl H109 ?_
  clear H109; intro a110 H110
  refine st_callg rfl z_call18 rfl rfl rfl rfl H110 (tfinalN _) ?_
  clear H110; intro a111 wx111 H111
  refine plain (y_add rfl rfl rfl (by first | exact w64 (by omega) (by omega) | rfl)) rfl rfl rfl H111 ?_
  clear H111; intro a112 H112
  refine plain (y_move rfl rfl) rfl rfl rfl H112 ?_
  clear H112; intro a113 H113
  refine st_callg rfl z_call20 rfl rfl rfl rfl H113 (tdeepestN _) ?_
  clear H113; intro a114 wx114 H114
  refine plain (y_add rfl rfl rfl (by first | exact w64 (by omega) (by omega) | rfl)) rfl rfl rfl H114 ?_
  clear H114; intro a115 H115
  refine plain (y_move rfl rfl) rfl rfl rfl H115 ?_
  clear H115; intro a116 H116
  refine plain (y_move rfl rfl) rfl rfl rfl H116 ?_
  clear H116; intro a117 H117
  refine st_callg rfl z_call17 rfl rfl rfl rfl H117 (tuptoN n _) ?_
  clear H117; intro a118 wx118 H118
  refine plain (y_len rfl Tryd.underlying36 rfl) rfl rfl rfl H118 ?_
  clear H118; intro a119 H119
  refine plain (y_add rfl rfl rfl (by first | exact w64 (by omega) (by omega) | rfl)) rfl rfl rfl H119 ?_
  clear H119; intro a120 H120
  refine plain (y_eql rfl rfl rfl) rfl rfl rfl H120 ?_
  clear H120; intro a121 H121
  refine plain (y_pick_t rfl rfl rfl) rfl rfl rfl H121 ?_
  clear H121; intro a122 H122
  refine plain (y_assign rfl rfl) rfl rfl rfl H122 ?_
  clear H122; intro a123 H123
  refine fin ?_
  refine then_n ?_
  refine wp_ret ?_
  -- return 1
  refine ret1 rfl H123 rfl ?_
  exact ⟨_, [], rfl, ⟨by first | rfl | exact congrArg Value.bool (decide_eq_true (by first | assumption | rfl | decide | omega)), rfl⟩, H123.sep.sub (List.nil_sublist _)⟩

end Go.Proofs.YtlhddgkbbdfacaaDoor.C_L2

set_option linter.unusedVariables false
set_option linter.unusedSimpArgs false
namespace Go.Proofs.YtlhddgkbbdfacaaDoor.C_Rd
open Go.Sx Go.RowKit

theorem rd_Item {H : Type} {enc : TypeId × Value → H} {W : World} {sp : Nat → Bool} {held : Bool} {cs : List Value} (h : Trw enc Tryd.prog W sp held 69 cs) : ∃ (x : Note.Item), cs = Note.Item.cells x ∧ Note.Item.Wf x := by
  have hp := h.pieces Tryd.underlying69 [1, 1, 1, 1] (by kernel_rfl)
  obtain ⟨v0, e0, w0⟩ := (h.field Tryd.underlying69 0 rfl (o := 0) rfl (T := 3) rfl (k := 1) (by kernel_rfl)).i64 Tryd.underlying3
  obtain ⟨v1, e1, w1⟩ := (h.field Tryd.underlying69 1 rfl (o := 1) rfl (T := 3) rfl (k := 1) (by kernel_rfl)).i64 Tryd.underlying3
  obtain ⟨v2, e2, w2⟩ := (h.field Tryd.underlying69 2 rfl (o := 2) rfl (T := 3) rfl (k := 1) (by kernel_rfl)).i64 Tryd.underlying3
  obtain ⟨v3, e3, w3⟩ := (h.field Tryd.underlying69 3 rfl (o := 3) rfl (T := 9) rfl (k := 1) (by kernel_rfl)).str Tryd.underlying9
  refine ⟨⟨v0, v1, v2, v3⟩, ?_, w0, w1, w2, w3⟩
  rw [hp]
  simp only [Sx.pieces, Nat.zero_add, Nat.reduceAdd, e0, e1, e2, e3]
  first | rfl | simp [Note.Item.cells]
theorem rd_IA {H : Type} {enc : TypeId × Value → H} {W : World} {sp : Nat → Bool} {held : Bool} {cs : List Value} (h : Trw enc Tryd.prog W sp held 24 cs) : ∃ (q : Tree.IA), cs = [.slice q.A q.l.length q.c] ∧ (Tree.IA.Wf q ∧ Rd W q.A (Inbox.ic q.l)) := by
  obtain ⟨A0, m0, c0, e0, hmc0, hm0, rows0, hr0, hR0, hrow0⟩ := h.sliceC Tryd.underlying24 (by rw [show Tryd.prog.cellsOf 69 = 4 by kernel_rfl]; decide)
  obtain ⟨v0, rfl, w0⟩ := rows_map (f := Note.Item.cells) (rows := rows0) (fun r hr => rd_Item (hrow0 r hr).2)
  simp only [List.length_map] at hr0
  subst hr0
  have hby0 := h.sliceB Tryd.underlying24 e0
  rw [show Tryd.prog.bytesOf 69 = 40 by kernel_rfl] at hby0
  unfold reachBytes at hby0
  exact ⟨⟨v0, A0, c0⟩, e0, ⟨w0, by show v0.length * 40 ≤ _; omega⟩, hR0⟩
theorem rd_Act {H : Type} {enc : TypeId × Value → H} {W : World} {sp : Nat → Bool} {held : Bool} {cs : List Value} (h : Trw enc Tryd.prog W sp held 39 cs) : ∃ (x : Tree.Act), cs = Tree.Act.cells x ∧ Tree.Act.Wf W x := by
  have hp := h.pieces Tryd.underlying39 [1, 1, 1, 1] (by kernel_rfl)
  obtain ⟨v0, e0, w0⟩ := (h.field Tryd.underlying39 0 rfl (o := 0) rfl (T := 3) rfl (k := 1) (by kernel_rfl)).i64 Tryd.underlying3
  obtain ⟨v1, e1, w1⟩ := (h.field Tryd.underlying39 1 rfl (o := 1) rfl (T := 3) rfl (k := 1) (by kernel_rfl)).i64 Tryd.underlying3
  obtain ⟨v2, e2, w2⟩ := (h.field Tryd.underlying39 2 rfl (o := 2) rfl (T := 3) rfl (k := 1) (by kernel_rfl)).i64 Tryd.underlying3
  obtain ⟨A3, m3, c3, e3, hmc3, hm3, rows3, hr3, hR3, hrow3⟩ := (h.field Tryd.underlying39 3 rfl (o := 3) rfl (T := 37) rfl (k := 1) (by kernel_rfl)).sliceC Tryd.underlying37 (by rw [show Tryd.prog.cellsOf 24 = 1 by kernel_rfl]; decide)
  obtain ⟨v3, rfl, w3⟩ := rows_map (f := (fun q : Tree.IA => [Value.slice q.A q.l.length q.c])) (rows := rows3) (fun r hr => rd_IA (hrow3 r hr).2)
  simp only [List.length_map] at hr3
  subst hr3
  have hby3 := (h.field Tryd.underlying39 3 rfl (o := 3) rfl (T := 37) rfl (k := 1) (by kernel_rfl)).sliceB Tryd.underlying37 e3
  rw [show Tryd.prog.bytesOf 24 = 24 by kernel_rfl] at hby3
  unfold reachBytes at hby3
  rw [Tree.iac_flat] at hR3
  refine ⟨⟨v0, v1, v2, v3, A3, c3⟩, ?_, ⟨w0, w1, w2, fun q hq => (w3 q hq).1, hR3, fun q hq => (w3 q hq).2, hm3, hmc3⟩⟩
  rw [hp]
  simp only [Sx.pieces, Nat.zero_add, Nat.reduceAdd, e0, e1, e2, e3]
  first | rfl | simp [Tree.Act.cells]

end Go.Proofs.YtlhddgkbbdfacaaDoor.C_Rd
