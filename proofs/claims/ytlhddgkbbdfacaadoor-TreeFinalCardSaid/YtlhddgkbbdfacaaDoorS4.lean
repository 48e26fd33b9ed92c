/- Part of a proof about given Go functions: contracts of functions, or plain laws. -/
import Derived.Test.YtlhddgkbbdfacaaDoorS3
import Derived.Stop.BytesEq
/- Own words: what a function hands back out of a cell; lists of words; a table that lies in the first block. -/
set_option linter.unusedVariables false
set_option linter.unusedSimpArgs false
namespace Go.Sx
open Go.RowKit
variable {P : Program} {n : Nat} {S : List Nat} {w0 w : World} {ss : List (Nat × Value)} {l : List It} {o : Oper} {a : Act}

theorem run_cell {fn : Func} {t ty b z : Nat} {E : TypeId} {cs : List Value} (hr : fn.results = #[.cell t ty]) (H : St n S w0 ss l a w) (hv : find ss t = some (.pointer (some ⟨b, 0, none⟩))) (ht : aggB P ty = some true) (hz : sizeB P ty = some z) (hm : It.blk b E cs ∈ l) (hl : cs.length = z) :
    (results fn a.tmps).run P w = .ok (.agg cs.toArray) w := by
  have h1 : a.tmps[t]?.getD undef = .pointer (some ⟨b, 0, none⟩) := by simpa [Array.getD_eq_getD_getElem?] using getD_of H.fr hv
  have h2 : Rd w (some ⟨b, 0, none⟩) cs := by
    have := Rd.blk (blk_at hm H.sep) 0 cs.length
    simpa using this
  subst hl
  simp [results, hr, h1, loadVar, run_isAgg' ht, run_sizeOf' hz, h2.load, asAddr]
theorem retc {fn : Func} {R : Ending → World → Prop} {t ty b z : Nat} {E : TypeId} {cs : List Value} (hr : fn.results = #[.cell t ty]) (H : St n S w0 ss l a w) (hv : find ss t = some (.pointer (some ⟨b, 0, none⟩))) (ht : aggB P ty = some true) (hz : sizeB P ty = some z) (hm : It.blk b E cs ∈ l) (hl : cs.length = z)
    (h : R (.returned (.agg cs.toArray)) w) : bodyPost P fn R .ret a w :=
  bodyPost_ret (run_cell hr H hv ht hz hm hl) H.fr.df h

theorem u32_get (L : List (BitVec 32)) (k : Nat) (h : k < L.length) : (L.map u32)[k]? = some (u32 (L.getD k 0)) := map_get u32 L k 0 h
theorem grow_get (L : List (BitVec 32)) (r : List Value) (k : Nat) (h : k < L.length) : (L.map u32 ++ r)[k]? = some (u32 (L.getD k 0)) := by
  rw [List.getElem?_append_left (by simpa using h)]
  exact u32_get L k h
theorem grow_set (L : List (BitVec 32)) (z : Value) (i m : Nat) (x : BitVec 32) (hL : L.length = i) (hm : i < m) : (L.map u32 ++ List.replicate (m - i) z).set (0 + (i : Int).toNat * 1) (u32 x) = (L ++ [x]).map u32 ++ List.replicate (m - (i + 1)) z := by
  have e : 0 + (i : Int).toNat * 1 = i := by omega
  have e2 : m - i = (m - (i + 1)) + 1 := by omega
  rw [e, e2, List.replicate_succ, List.set_append_right _ _ (by simp [hL])]
  simp [hL]
theorem pre_set (L : List (BitVec 32)) (r : List Value) (i : Nat) (v : Value) (hL : L.length = i) : (L.map u32 ++ r).set (0 + (i : Int).toNat * 1) v = L.map u32 ++ r.set 0 v := by
  have e : 0 + (i : Int).toNat * 1 = i := by omega
  rw [e, List.set_append_right _ _ (by simp [hL])]
  simp [hL]
theorem take_all {cs : List Value} {z : Nat} (h : cs.length = z) : (cs.drop 0).take z = cs := by rw [List.drop_zero, List.take_of_length_le (by omega)]
theorem spl_all {cs vs : List Value} (h : vs.length = cs.length) : spl cs 0 vs = vs := by
  unfold spl
  rw [List.take_zero, List.nil_append, Nat.zero_add, List.drop_eq_nil_of_le (by omega), List.append_nil]
theorem one_u32 (L : List (BitVec 32)) : (L.map u32).all (·.oneCell') = true := by simp [Value.oneCell']
theorem one_u8 (L : List UInt8) : (L.map u8).all (·.oneCell') = true := by simp [Value.oneCell']
theorem u32_set (L : List (BitVec 32)) (i : Nat) (x : BitVec 32) : (L.map u32).set (0 + (i : Int).toNat * 1) (u32 x) = (L.set i x).map u32 := by
  have e : 0 + (i : Int).toNat * 1 = i := by omega
  rw [e, List.map_set]
theorem u8_set (L : List UInt8) (i : Nat) (x : UInt8) : (L.map u8).set i (u8 x) = (L.set i x).map u8 := by rw [List.map_set]

/-- The table in block g. -/
def Glob (g : Nat) (T : List (BitVec 32)) (w : World) : Prop := ∀ k, k < T.length → w.cell? ⟨g, k, none⟩ = some (u32 (T.getD k 0))
theorem Glob.frm {g : Nat} {T : List (BitVec 32)} {w0 w : World} {S : List Nat} (h : Glob g T w0) (F : Frm S w0 w) (hS : g ∉ S) : Glob g T w := fun k hk => by
  have h1 := h k hk
  rw [← h1]
  exact World.cell?_of_block (F.block _ (World.block_lt_of_cell? w0 _ h1) hS)
theorem Glob.get {g : Nat} {T : List (BitVec 32)} {w : World} (h : Glob g T w) {k : Nat} (hk : k < T.length) : w.cell? ⟨g, 0 + (k : Int).toNat * 1, none⟩ = some (u32 (T.getD k 0)) := by
  have e : 0 + (k : Int).toNat * 1 = k := by omega
  rw [e]
  exact h k hk
theorem y_aidx {x i : Operand} {t e : TypeId} {len : Nat} {cs : List Value} {k : IntKind} {q : Int} {v : Value} (ho : o.op = .index t x i) (ht : P.underlying t = some (.array len e)) (ha : aggB P e = some false) (hz : sizeB P e = some 1) (hx : evO ss x = some (.agg cs.toArray)) (hi : evO ss i = some (.int k q)) (h0 : 0 ≤ q) (h1 : q < (len : Int)) (hv : cs[q.toNat]? = some v) : Yld P n S w0 ss l o v := by
  intro a w F _
  have h2 : 0 ≤ q ∧ q < (len : Int) := ⟨h0, h1⟩
  simp [execOp, ho, F.ev hx, F.ev hi, Instr.index, asIntOf, run_underlying ht, run_sizeOf' hz, h2, Go.part, run_isAgg' ha, hv]
variable {ops : Array Oper} {Q : Exit → Act → World → Prop} {rest : List Oper}
theorem st_copyT0 {x y : Operand} {t u E F : TypeId} {b len c d : Nat} {cs : List Value} {p : List UInt8} {l' : List It} (ho : o.op = .call { callee := .builtin .copy, args := #[x, y], argTypes := #[t, u] }) (ht : P.underlying t = some (.slice E)) (hz : sizeB P E = some 1)
    (hx : evO ss x = some (.slice (some ⟨b, 0, none⟩) len c)) (hy : evO ss y = some (str p)) (hu : Upd l (It.blk b F cs) (It.blk b F (spl cs 0 (p.map u8))) l') (hle : p.length ≤ len) (hpos : 0 < len) (hlen : cs.length = len) (hw : wantB ops ss o = some true) (hd : o.dst = some d) (hn : Nat.ble (d + 1) n = true) (H : St n S w0 ss l a w)
    (K : ∀ a' w', St n S w0 ((d, .int .i64 (p.length : Int)) :: ss) l' a' w' → wpList P ops Q rest a' w') : wpList P ops Q (o :: rest) a w :=
  st_copyT (k := 0) (b := b) (len := len) (c := c) ho ht hz (by
    rw [hx, if_neg (by omega)]
    simp [Addr.add]) hy hu (by omega) hlen hw hd hn H K
theorem rd_slLH {b : Nat} {E : TypeId} {T : List UInt8} {len : Nat} (k c : Nat) (hm : It.blk b E (T.map u8) ∈ l) (hlen : T.length = len) : ∀ w, Sep S w0 w l → Rd w (if len = k then some ⟨b, 0, none⟩ else (some (⟨b, 0, none⟩ : Addr)).map (·.add (k * 1))) (((T.drop k).take c).map u8) := fun w hs => by
  have h := (rd_slA (q := k) hm (by simpa using hlen) rfl rfl w hs).take c
  simpa [List.map_take, List.map_drop] using h
theorem end_zero (t : List UInt8) (h : t.length < 128) : (spl (List.replicate 128 (Value.int .u8 0)) 0 (t.map u8)).set (0 + (t.length : Int).toNat * 1) (.int .u8 128) = (t ++ [128] ++ List.replicate (127 - t.length) 0).map u8 := by
  have e : 0 + (t.length : Int).toNat * 1 = t.length := by omega
  have e2 : (List.replicate 128 (Value.int .u8 0)).drop (0 + (t.map u8).length) = Value.int .u8 0 :: List.replicate (127 - t.length) (Value.int .u8 0) := by
    rw [List.drop_replicate, List.length_map, Nat.zero_add, show 128 - t.length = (127 - t.length) + 1 by omega, List.replicate_succ]
  unfold spl
  rw [e, List.take_zero, List.nil_append, e2, List.set_append_right _ _ (by simp)]
  simp [u8]
theorem shrU (x i : Nat) (hi : i < 8) : Int.fdiv ((x : Nat) : Int) (2 ^ (min ((8 * (i : Int)).toNat) IntKind.u64.bits)) = ((x / 256 ^ i : Nat) : Int) := by
  have e : min ((8 * (i : Int)).toNat) IntKind.u64.bits = 8 * i := by show min ((8 * (i : Int)).toNat) 64 = 8 * i; omega
  have hp : (0 : Int) ≤ (2 : Int) ^ (8 * i) := Int.pow_nonneg (by omega)
  have e2 : ((2 : Int) ^ (8 * i)) = ((256 ^ i : Nat) : Int) := by rw [Int.pow_mul, Int.natCast_pow]; rfl
  rw [e, Int.fdiv_eq_ediv_of_nonneg _ hp, e2, Int.natCast_ediv]
theorem set4 (X : List UInt8) (m : Nat) (a b c d : UInt8) (i : Nat) (hX : X.length = 4 * i) (hm : 4 * i + 4 ≤ m) (p0 p1 p2 p3 : Nat) (e0 : p0 = 4 * i) (e1 : p1 = 4 * i + 1) (e2 : p2 = 4 * i + 2) (e3 : p3 = 4 * i + 3) :
    ((((X.map u8 ++ List.replicate (m - 4 * i) (Value.int .u8 0)).set p0 (u8 a)).set p1 (u8 b)).set p2 (u8 c)).set p3 (u8 d) = (X ++ [a, b, c, d]).map u8 ++ List.replicate (m - 4 * (i + 1)) (Value.int .u8 0) := by
  subst e0 e1 e2 e3
  have e : m - 4 * i = (m - 4 * (i + 1)) + 1 + 1 + 1 + 1 := by omega
  rw [e]
  simp only [List.replicate_succ]
  have hl : (X.map u8).length = 4 * i := by rw [List.length_map, hX]
  rw [List.set_append_right _ _ (by omega), List.set_append_right _ _ (by omega), List.set_append_right _ _ (by omega), List.set_append_right _ _ (by omega), hl]
  simp only [Nat.sub_self, Nat.add_sub_cancel_left, List.set_cons_zero, List.set_cons_succ, List.map_append, List.map_cons, List.map_nil, List.append_assoc, List.cons_append, List.nil_append]
end Go.Sx

/- Own words: arrays of bytes side by side. -/
set_option linter.unusedVariables false
set_option linter.unusedSimpArgs false
namespace Go.Sx
open Go.RowKit
variable {P : Program} {n : Nat} {S : List Nat} {w0 w : World} {ss : List (Nat × Value)} {l : List It} {o : Oper} {a : Act}
theorem u8_cell : u8 = Extern.Stop.cell := rfl
theorem y_heql {t t' e : TypeId} {x y : Operand} {m : Nat} {p q : List UInt8} (ho : o.op = .binOp .eql t x y t') (hm : P.eqGuardType P.depth t = false) (ht : P.underlying t = some (.array m e)) (he : P.underlying e = some (.int .u8)) (hz : sizeB P e = some 1)
    (hx : evO ss x = some (.agg (p.map u8).toArray)) (hy : evO ss y = some (.agg (q.map u8).toArray)) (hp : p.length = m) (hq : q.length = m) : Yld P n S w0 ss l o (.bool (decide (p = q))) := by
  intro a w F _
  have h1 := run_eql_bytes w t e m ht he (fun w => run_sizeOf' hz) p q hp hq
  rw [← u8_cell, lbeq] at h1
  have hg := fun op (x y : Operand) xs ys => run_eqGuard_agg (P := P) (w := w) op t x y xs ys hm
  simp [execOp, ho, F.ev hx, F.ev hy, hg, h1]
theorem y_hneq {t t' e : TypeId} {x y : Operand} {m : Nat} {p q : List UInt8} (ho : o.op = .binOp .neq t x y t') (hm : P.eqGuardType P.depth t = false) (ht : P.underlying t = some (.array m e)) (he : P.underlying e = some (.int .u8)) (hz : sizeB P e = some 1)
    (hx : evO ss x = some (.agg (p.map u8).toArray)) (hy : evO ss y = some (.agg (q.map u8).toArray)) (hp : p.length = m) (hq : q.length = m) : Yld P n S w0 ss l o (.bool (decide (p ≠ q))) := by
  intro a w F _
  have h0 := run_equalIn_bytes w 9998 t e m ht he (fun w => run_sizeOf' hz) p q hp hq
  have h1 : (binOp .neq t (.agg (p.map u8).toArray) (.agg (q.map u8).toArray)).run P w = .ok (.bool (decide (p ≠ q))) w := by
    rw [run_neq_struct, u8_cell, h0]
    simp [lbeq]
  have hg := fun op (x y : Operand) xs ys => run_eqGuard_agg (P := P) (w := w) op t x y xs ys hm
  simp [execOp, ho, F.ev hx, F.ev hy, hg, h1]
end Go.Sx

/- Own words: how arguments read, with what they weigh. -/
set_option linter.unusedVariables false
set_option linter.unusedSimpArgs false
namespace Go.Sx
open Go.RowKit Go.WideShapes Go.ChangeAt Go.ChangeShapes

section
variable {H : Type} (enc : TypeId × Value → H) (P : Program) (W : World) (sp : Nat → Bool) (held : Bool)
def Trw (t : TypeId) (cs : List Value) : Prop := ∃ fuel x, DataW.trod enc P W 0 sp held fuel t cs = some x ∧ ∀ z ∈ x.1.weights P t, z ≤ reachBytes
end
section
variable {H : Type} {enc : TypeId × Value → H} {P : Program} {W : World} {sp : Nat → Bool} {held : Bool} {t e : TypeId} {cs : List Value}
theorem Trw.of {ts : List TypeId} {ds : List (DataW H)} {v : Value} {d : DataW H} {ps : List MemPlace} (h : DataW.Trod enc P W 0 sp held t v d ps) (hs : (DataW.weightsEach P ts ds).all (· ≤ reachBytes) = true) (j : Nat) (ht : ts[j]? = some t) (hd : ds[j]? = some d) : Trw enc P W sp held t v.cells.toList := by
  obtain ⟨fuel, hf⟩ := h
  refine ⟨fuel, _, hf, fun z hz => ?_⟩
  have := List.all_eq_true.1 hs _ (DataW.weights_mem_each ht hd z hz)
  simpa using this
theorem Trw.tr (h : Trw enc P W sp held t cs) : Tr enc P W sp held t cs := by
  obtain ⟨fuel, x, hf, _⟩ := h
  exact ⟨fuel, x, hf⟩
theorem Trw.str (h : Trw enc P W sp held t cs) (ht : P.underlying t = some .string) : ∃ s : List UInt8, cs = [Sx.str s] ∧ s.length ≤ 140737488351232 := by
  obtain ⟨fuel, x, hf, hw⟩ := h
  obtain ⟨n, h1, h2, _⟩ := DataW.trod_string ht hf
  refine ⟨n.data.toList, h1, ?_⟩
  subst h2
  exact hw _ (by simp [DataW.weights])
theorem Trw.struct {fs : Array Field} (h : Trw enc P W sp held t cs) (ht : P.underlying t = some (.struct fs)) : cs.length = P.cellsOf t ∧ ∀ (i : Nat) (f : Field), fs[i]? = some f → Trw enc P W sp held f.type ((cs.drop f.offset).take (P.cellsOf f.type)) := by
  obtain ⟨fuel, x, hf, hw⟩ := h
  obtain ⟨xs, n, _, hx, h1, h2, h3⟩ := DataW.trod_struct ht hf
  subst hx
  refine ⟨h1, fun i f hi => ?_⟩
  have hlt : i < fs.size := (Array.getElem?_eq_some_iff.1 hi).1
  refine ⟨n, xs[i]'(by omega), by rw [h3 i f hi]; exact List.getElem?_eq_getElem _, fun z hz => hw z ?_⟩
  simp only [DataW.weights, ht]
  exact DataW.weights_mem_each (j := i) (by simp [hi]) (by simp [List.getElem?_map, List.getElem?_eq_getElem (show i < xs.length by omega)]) z hz
theorem Trw.field {fs : Array Field} (h : Trw enc P W sp held t cs) (ht : P.underlying t = some (.struct fs)) (i : Nat) {f : Field} (hi : fs[i]? = some f) {o k T : Nat} (ho : f.offset = o) (hT : f.type = T) (hk : P.cellsOf T = k) : Trw enc P W sp held T ((cs.drop o).take k) := by
  have := (h.struct ht).2 i f hi
  rwa [ho, hT, hk] at this
theorem Trw.pieces {fs : Array Field} (h : Trw enc P W sp held t cs) (ht : P.underlying t = some (.struct fs)) (ks : List Nat) (hk : P.cellsOf t = ks.sum) : cs = Sx.pieces cs 0 ks := pieces_all ks (by rw [(h.struct ht).1, hk])
theorem Trw.i64 (h : Trw enc P W sp held t cs) (ht : P.underlying t = some (.int .i64)) : ∃ n, cs = [Sx.i64 n] ∧ -9223372036854775808 ≤ n ∧ n ≤ 9223372036854775807 := h.tr.i64 ht
theorem Trw.bool (h : Trw enc P W sp held t cs) (ht : P.underlying t = some .bool) : ∃ b, cs = [.bool b] := h.tr.bool ht
theorem Trw.bytes {n : Nat} (h : Trw enc P W sp held t cs) (ht : P.underlying t = some (.array n e)) (he : P.underlying e = some (.int .u8)) (hn : P.cellsOf t = n) (h1 : P.cellsOf e = 1) : ∃ bs : List UInt8, cs = bs.map Sx.u8 ∧ bs.length = n := h.tr.bytes ht he hn h1
end
theorem u8_of {n : Int} (h : (Lit.int .u8 n).wf = true) : ∃ u : UInt8, n = (u.toNat : Int) := by
  simp [Lit.wf, IntKind.min, IntKind.max, IntKind.bits, IntKind.signed] at h
  refine ⟨UInt8.ofNat n.toNat, ?_⟩
  rw [UInt8.toNat_ofNat']
  omega
end Go.Sx

/- Numbers, texts and lists as bytes: the plain laws. -/
namespace Go.Oct
/-- How many bytes a number has. -/
def blen (m : Nat) : Nat := if m = 0 then 0 else Nat.log2 m / 8 + 1
/-- The j low bytes of m, the high one first. -/
def lows : Nat → Nat → List UInt8
  | 0, _ => []
  | j + 1, m => UInt8.ofNat (m / 256 ^ j) :: lows j m
theorem lows_length : ∀ j m, (lows j m).length = j
  | 0, _ => rfl
  | j + 1, m => by simp [lows, lows_length j m]
/-- A number laid. -/
def numL (m : Nat) : List UInt8 := UInt8.ofNat (blen m) :: lows (blen m) m
/-- A number laid, or why not. -/
def number (n : Int) : List UInt8 × Int := if n < 0 then ([], 2) else (numL n.toNat, 0)

theorem blen_zero : blen 0 = 0 := rfl
theorem pow256 (k : Nat) : 256 ^ k = 2 ^ (8 * k) := by rw [Nat.pow_mul]
theorem blen_lt (m : Nat) : m < 256 ^ blen m := by
  unfold blen
  split
  · omega
  · rename_i h
    rw [pow256]
    exact Nat.lt_of_lt_of_le Nat.lt_log2_self (Nat.pow_le_pow_right (by omega) (by omega))
theorem blen_ge {m : Nat} (h : 0 < m) : 256 ^ (blen m - 1) ≤ m := by
  unfold blen
  rw [if_neg (by omega), Nat.add_sub_cancel, pow256]
  exact Nat.le_trans (Nat.pow_le_pow_right (by omega) (by omega)) (Nat.log2_self_le (by omega))
theorem blen_eq (j m : Nat) (h : m < 256 ^ j) (h2 : j = 0 ∨ 256 ^ (j - 1) ≤ m) : blen m = j := by
  rcases Nat.eq_zero_or_pos m with h0 | h0
  · subst h0
    rcases h2 with h2 | h2
    · rw [h2]; rfl
    · have : 0 < 256 ^ (j - 1) := Nat.pow_pos (by omega)
      omega
  · have hb : 0 < blen m := by unfold blen; rw [if_neg (by omega)]; omega
    have h3 := blen_lt m
    have h4 := blen_ge h0
    have h5 : blen m - 1 < j := (Nat.pow_lt_pow_iff_right (by omega : 1 < 256)).1 (Nat.lt_of_le_of_lt h4 h)
    rcases h2 with h2 | h2
    · subst h2; simp at h; omega
    · have h6 : j - 1 < blen m := (Nat.pow_lt_pow_iff_right (by omega : 1 < 256)).1 (Nat.lt_of_le_of_lt h2 h3)
      omega
theorem blen_le8 {m : Nat} (h : m ≤ 9223372036854775807) : blen m ≤ 8 := by
  rcases Nat.eq_zero_or_pos m with h0 | h0
  · subst h0; simp [blen_zero]
  · have h1 := blen_ge h0
    rcases Nat.lt_or_ge 8 (blen m) with h2 | h2
    · have h3 : 256 ^ 8 ≤ 256 ^ (blen m - 1) := Nat.pow_le_pow_right (by omega) (by omega)
      have h4 : (256 : Nat) ^ 8 = 18446744073709551616 := by decide
      omega
    · exact h2
/-- What the loop over the bytes sees. -/
theorem round_pos {m j : Nat} (hm : m ≤ 9223372036854775807) (h : 0 < m / 256 ^ j) : j ≤ 7 ∧ 256 ^ j ≤ m := by
  have hp : 0 < 256 ^ j := Nat.pow_pos (by omega)
  have h1 : 256 ^ j ≤ m := by
    have := (Nat.le_div_iff_mul_le hp).1 h
    omega
  refine ⟨?_, h1⟩
  rcases Nat.lt_or_ge 7 j with h2 | h2
  · have h3 : 256 ^ 8 ≤ 256 ^ j := Nat.pow_le_pow_right (by omega) (by omega)
    have h4 : (256 : Nat) ^ 8 = 18446744073709551616 := by decide
    omega
  · exact h2
theorem round_zero {m j : Nat} (h : m / 256 ^ j = 0) (h2 : j = 0 ∨ 256 ^ (j - 1) ≤ m) : blen m = j := by
  have hp : 0 < 256 ^ j := Nat.pow_pos (by omega)
  refine blen_eq j m ?_ h2
  rw [Nat.div_eq_zero_iff] at h
  omega
theorem round_pos' {m j : Nat} (hm : m ≤ 9223372036854775807) (h : (0 : Int) < ((m / 256 ^ j : Nat) : Int)) : j ≤ 7 ∧ 256 ^ j ≤ m := round_pos hm (Int.natCast_pos.1 h)
theorem round_zero' {m j : Nat} (h : ¬ (0 : Int) < ((m / 256 ^ j : Nat) : Int)) (h2 : j = 0 ∨ 256 ^ (j - 1) ≤ m) : blen m = j :=
  round_zero (Nat.eq_zero_of_not_pos fun hp => h (Int.natCast_pos.2 hp)) h2
theorem div_pow_succ (m j : Nat) : m / 256 ^ j / 256 = m / 256 ^ (j + 1) := by rw [Nat.div_div_eq_div_mul, ← Nat.pow_succ]

/-! ### Texts and lists -/
def textL (s : List UInt8) : List UInt8 := numL s.length ++ s
def text (s : List UInt8) : List UInt8 × Int := if 65536 < s.length then ([], 3) else (textL s, 0)
def listL (l : List (List UInt8)) : List UInt8 := numL l.length ++ (l.map textL).flatten
def list (l : List (List UInt8)) : List UInt8 × Int := if 1024 < l.length ∨ 65536 < l.flatten.length then ([], 3) else (listL l, 0)

theorem number_nat (m : Nat) : number (m : Int) = (numL m, 0) := by simp [number, show ¬ ((m : Int) < 0) by omega]
theorem numL_length (m : Nat) : (numL m).length = blen m + 1 := by simp [numL, lows_length]
theorem numL_le {m : Nat} (h : m ≤ 9223372036854775807) : (numL m).length ≤ 9 := by have := blen_le8 h; rw [numL_length]; omega
theorem textL_length (s : List UInt8) : (textL s).length = blen s.length + 1 + s.length := by simp [textL, numL_length]
theorem textL_le {s : List UInt8} (h : s.length ≤ 9223372036854775807) : (textL s).length ≤ s.length + 9 := by have := blen_le8 h; rw [textL_length]; omega

theorem getD_eq {α : Type} {l : List α} {k : Nat} (d : α) (h : k < l.length) : l.getD k d = l[k] := by simp [List.getD_eq_getElem?_getD, h]
theorem take_succ {α : Type} {l : List α} {k : Nat} (d : α) (h : k < l.length) : l.take (k + 1) = l.take k ++ [l.getD k d] := by
  rw [List.take_succ_eq_append_getElem h, getD_eq d h]
/-- The first k of some texts, one behind the other. -/
def tf (l : List (List UInt8)) (k : Nat) : List UInt8 := (l.take k).flatten
theorem tf_zero (l : List (List UInt8)) : tf l 0 = [] := by simp [tf]
theorem tf_succ {l : List (List UInt8)} {k : Nat} (h : k < l.length) : tf l (k + 1) = tf l k ++ l.getD k [] := by
  unfold tf
  rw [take_succ [] h, List.flatten_append]
  simp
theorem tf_all {l : List (List UInt8)} {k : Nat} (h : l.length ≤ k) : tf l k = l.flatten := by simp [tf, List.take_of_length_le h]
theorem tf_le (l : List (List UInt8)) (k : Nat) : (tf l k).length ≤ l.flatten.length := by
  conv => rhs; rw [← List.take_append_drop k l, List.flatten_append, List.length_append]
  exact Nat.le_add_right _ _
theorem len_le_flatten {l : List (List UInt8)} {k : Nat} (h : k < l.length) : (tf l k).length + (l.getD k []).length ≤ l.flatten.length := by
  have h1 := tf_le l (k + 1)
  rw [tf_succ h, List.length_append] at h1
  exact h1
/-- All that a list's text is made of, before it is joined. -/
def parts (l : List (List UInt8)) (k : Nat) : List (List UInt8) := numL l.length :: (l.take k).map textL
theorem parts_succ {l : List (List UInt8)} {k : Nat} (h : k < l.length) : parts l (k + 1) = parts l k ++ [textL (l.getD k [])] := by
  simp [parts, take_succ [] h]
theorem parts_length (l : List (List UInt8)) {k : Nat} (h : k ≤ l.length) : (parts l k).length = k + 1 := by simp [parts]; omega
theorem parts_flatten {l : List (List UInt8)} {k : Nat} (h : l.length ≤ k) : (parts l k).flatten = listL l := by simp [parts, listL, List.take_of_length_le h]
theorem map_textL_le : ∀ (l : List (List UInt8)), l.flatten.length ≤ 9223372036854775807 → ((l.map textL).flatten).length ≤ l.flatten.length + 9 * l.length
  | [], _ => by simp
  | s :: l, h => by
    simp only [List.flatten_cons, List.length_append] at h
    have h1 := map_textL_le l (by omega)
    have h2 := textL_le (s := s) (by omega)
    simp only [List.map_cons, List.flatten_cons, List.length_append, List.length_cons]
    omega
theorem listL_le {l : List (List UInt8)} (h1 : l.length ≤ 1024) (h2 : l.flatten.length ≤ 65536) : (listL l).length ≤ 80000 := by
  have h3 := map_textL_le l (by omega)
  have h4 := numL_le (m := l.length) (by omega)
  simp only [listL, List.length_append]
  omega
theorem list_big {l : List (List UInt8)} (h : 1024 < l.length) : list l = ([], 3) := by simp [list, h]
theorem list_long {l : List (List UInt8)} (h : 65536 < l.flatten.length) : list l = ([], 3) := by
  unfold list
  rw [if_pos (.inr h)]
theorem list_ok {l : List (List UInt8)} (h1 : ¬ 1024 < l.length) (h2 : ¬ 65536 < l.flatten.length) : list l = (listL l, 0) := by
  simp only [list, h1, h2, or_self, if_false]

/-! ### Reading -/
def val (l : List UInt8) : Nat := l.foldl (fun n b => n * 256 + b.toNat) 0
/-- What stands at a place whose first byte is k. -/
def rdk (s : List UInt8) (p k : Nat) : Int × Int × Int :=
  if 8 < k then (0, 0, 6) else if s.length < p + 1 + k then (0, 0, 5)
  else if 0 < k ∧ (s.getD (p + 1) 0 = 0 ∨ (k = 8 ∧ 127 < (s.getD (p + 1) 0).toNat)) then (0, 0, 6)
  else (((val ((s.drop (p + 1)).take k) : Nat) : Int), ((p + 1 + k : Nat) : Int), 0)
/-- A number read. -/
def rdn (s : List UInt8) (p : Int) : Int × Int × Int :=
  if p < 0 ∨ (s.length : Int) < p then (0, 0, 4) else if p = s.length then (0, 0, 5) else rdk s p.toNat (s.getD p.toNat 0).toNat

/-- The place bears a number of k bytes. -/
structure Good (s : List UInt8) (p k : Nat) : Prop where
  lt : p < s.length
  fst : (s.getD p 0).toNat = k
  le8 : k ≤ 8
  fit : p + 1 + k ≤ s.length
  form : ¬ (0 < k ∧ (s.getD (p + 1) 0 = 0 ∨ (k = 8 ∧ 127 < (s.getD (p + 1) 0).toNat)))
/-- A text read. -/
def rdt (s : List UInt8) (p : Int) : List UInt8 × Int × Int :=
  let r := rdn s p
  if r.2.2 ≠ 0 then ([], 0, r.2.2) else if 65536 < r.1 then ([], 0, 3) else if (s.length : Int) < r.2.1 + r.1 then ([], 0, 5)
  else ((s.drop r.2.1.toNat).take r.1.toNat, r.2.1 + r.1, 0)
/-- Texts read, n of them yet; sum: how many bytes they may still have. -/
def rdls (s : List UInt8) : Nat → Int → Int → List (List UInt8) → List (List UInt8) × Int × Int
  | 0, p, _, acc => (acc, p, 0)
  | n + 1, p, left, acc =>
    let r := rdt s p
    if r.2.2 ≠ 0 then ([], 0, r.2.2) else if left < r.1.length then ([], 0, 3) else rdls s n r.2.1 (left - r.1.length) (acc ++ [r.1])
/-- A list read. -/
def rdl (s : List UInt8) (p : Int) : List (List UInt8) × Int × Int :=
  let r := rdn s p
  if r.2.2 ≠ 0 then ([], 0, r.2.2) else if 1024 < r.1 then ([], 0, 3) else rdls s r.1.toNat r.2.1 65536 []
end Go.Oct
namespace Go.Oct
end Go.Oct

namespace Go.Oct
end Go.Oct

namespace Go.Oct
theorem text_ok {s : List UInt8} (h : ¬ 65536 < s.length) : text s = (textL s, 0) := by simp only [text, h, if_false]
end Go.Oct

namespace Go.Oct
end Go.Oct

/- The digest, in plain Lean. -/
namespace Go.Sha
open Go.Sx (w8 lo8)
abbrev W := BitVec 32
def rotr (x : W) (n : Nat) : W := x >>> n ||| x <<< (32 - n)
def K : List W := [BitVec.ofNat 32 1116352408, BitVec.ofNat 32 1899447441, BitVec.ofNat 32 3049323471, BitVec.ofNat 32 3921009573, BitVec.ofNat 32 961987163, BitVec.ofNat 32 1508970993, BitVec.ofNat 32 2453635748, BitVec.ofNat 32 2870763221, BitVec.ofNat 32 3624381080, BitVec.ofNat 32 310598401, BitVec.ofNat 32 607225278, BitVec.ofNat 32 1426881987, BitVec.ofNat 32 1925078388, BitVec.ofNat 32 2162078206, BitVec.ofNat 32 2614888103, BitVec.ofNat 32 3248222580, BitVec.ofNat 32 3835390401, BitVec.ofNat 32 4022224774, BitVec.ofNat 32 264347078, BitVec.ofNat 32 604807628, BitVec.ofNat 32 770255983, BitVec.ofNat 32 1249150122, BitVec.ofNat 32 1555081692, BitVec.ofNat 32 1996064986, BitVec.ofNat 32 2554220882, BitVec.ofNat 32 2821834349, BitVec.ofNat 32 2952996808, BitVec.ofNat 32 3210313671, BitVec.ofNat 32 3336571891, BitVec.ofNat 32 3584528711, BitVec.ofNat 32 113926993, BitVec.ofNat 32 338241895, BitVec.ofNat 32 666307205, BitVec.ofNat 32 773529912, BitVec.ofNat 32 1294757372, BitVec.ofNat 32 1396182291, BitVec.ofNat 32 1695183700, BitVec.ofNat 32 1986661051, BitVec.ofNat 32 2177026350, BitVec.ofNat 32 2456956037, BitVec.ofNat 32 2730485921, BitVec.ofNat 32 2820302411, BitVec.ofNat 32 3259730800, BitVec.ofNat 32 3345764771, BitVec.ofNat 32 3516065817, BitVec.ofNat 32 3600352804, BitVec.ofNat 32 4094571909, BitVec.ofNat 32 275423344, BitVec.ofNat 32 430227734, BitVec.ofNat 32 506948616, BitVec.ofNat 32 659060556, BitVec.ofNat 32 883997877, BitVec.ofNat 32 958139571, BitVec.ofNat 32 1322822218, BitVec.ofNat 32 1537002063, BitVec.ofNat 32 1747873779, BitVec.ofNat 32 1955562222, BitVec.ofNat 32 2024104815, BitVec.ofNat 32 2227730452, BitVec.ofNat 32 2361852424, BitVec.ofNat 32 2428436474, BitVec.ofNat 32 2756734187, BitVec.ofNat 32 3204031479, BitVec.ofNat 32 3329325298]
def H0 : List W := [BitVec.ofNat 32 1779033703, BitVec.ofNat 32 3144134277, BitVec.ofNat 32 1013904242, BitVec.ofNat 32 2773480762, BitVec.ofNat 32 1359893119, BitVec.ofNat 32 2600822924, BitVec.ofNat 32 528734635, BitVec.ofNat 32 1541459225]
def wd (b : List UInt8) (i : Nat) : W := w8 (b.getD (4 * i) 0) <<< 24 ||| w8 (b.getD (4 * i + 1) 0) <<< 16 ||| w8 (b.getD (4 * i + 2) 0) <<< 8 ||| w8 (b.getD (4 * i + 3) 0)
def nextW (w : List W) (t : Nat) : W :=
  w.getD (t - 16) 0 + w.getD (t - 7) 0 + (rotr (w.getD (t - 15) 0) 7 ^^^ rotr (w.getD (t - 15) 0) 18 ^^^ w.getD (t - 15) 0 >>> 3) + (rotr (w.getD (t - 2) 0) 17 ^^^ rotr (w.getD (t - 2) 0) 19 ^^^ w.getD (t - 2) 0 >>> 10)
def sched (b : List UInt8) : Nat → List W
  | 0 => []
  | t + 1 => sched b t ++ [if t < 16 then wd b t else nextW (sched b t) t]
theorem sched_length (b : List UInt8) : ∀ t, (sched b t).length = t
  | 0 => rfl
  | t + 1 => by simp [sched, sched_length b t]
theorem sched_wd (b : List UInt8) {t : Nat} (h : t < 16) : sched b (t + 1) = sched b t ++ [wd b t] := by simp [sched, h]
theorem sched_next (b : List UInt8) {t : Nat} (h : ¬ t < 16) : sched b (t + 1) = sched b t ++ [nextW (sched b t) t] := by simp [sched, h]
def sx (v : List W) (k w : W) : W := v.getD 7 0 + (rotr (v.getD 4 0) 6 ^^^ rotr (v.getD 4 0) 11 ^^^ rotr (v.getD 4 0) 25) + (v.getD 4 0 &&& v.getD 5 0 ^^^ ~~~ v.getD 4 0 &&& v.getD 6 0) + k + w
def sy (v : List W) : W := (rotr (v.getD 0 0) 2 ^^^ rotr (v.getD 0 0) 13 ^^^ rotr (v.getD 0 0) 22) + (v.getD 0 0 &&& v.getD 1 0 ^^^ v.getD 0 0 &&& v.getD 2 0 ^^^ v.getD 1 0 &&& v.getD 2 0)
def round (v : List W) (k w : W) : List W := [sx v k w + sy v, v.getD 0 0, v.getD 1 0, v.getD 2 0, v.getD 3 0 + sx v k w, v.getD 4 0, v.getD 5 0, v.getD 6 0]
def rounds (v ws : List W) : Nat → List W
  | 0 => v
  | t + 1 => round (rounds v ws t) (K.getD t 0) (ws.getD t 0)
theorem rounds_length {v ws : List W} (h : v.length = 8) : ∀ t, (rounds v ws t).length = 8
  | 0 => h
  | t + 1 => rfl
/-- The sum's first i words are done. -/
def mix (s v : List W) (i : Nat) : List W := (List.zipWith (· + ·) s v).take i ++ s.drop i
theorem mix_zero (s v : List W) : mix s v 0 = s := by simp [mix]
theorem mix_length {s v : List W} (hs : s.length = 8) (hv : v.length = 8) (i : Nat) : (mix s v i).length = 8 := by simp [mix, hs, hv]; omega
theorem mix_get {s v : List W} (hs : s.length = 8) (hv : v.length = 8) {i : Nat} (h : i < 8) : (mix s v i).getD i 0 = s.getD i 0 := by
  simp [mix, List.getD_eq_getElem?_getD, List.getElem?_append, hs, hv, Nat.min_eq_left (show i ≤ 8 by omega)]
theorem mix_succ {s v : List W} (hs : s.length = 8) (hv : v.length = 8) {i : Nat} (h : i < 8) : (mix s v i).set i (s.getD i 0 + v.getD i 0) = mix s v (i + 1) := by
  have hz : (List.zipWith (· + ·) s v).length = 8 := by simp [hs, hv]
  unfold mix
  rw [List.set_append_right _ _ (by simp [hz]; omega), List.length_take, hz, Nat.min_eq_left (by omega), Nat.sub_self, Oct.take_succ 0 (by omega), List.append_assoc]
  congr 1
  have e : s.drop i = s[i]'(by omega) :: s.drop (i + 1) := List.drop_eq_getElem_cons (by omega)
  rw [e, List.set_cons_zero]
  have e2 : (List.zipWith (· + ·) s v).getD i 0 = s.getD i 0 + v.getD i 0 := by simp [List.getD_eq_getElem?_getD, hs, hv, h]
  rw [e2]
  rfl
theorem mix_all {s v : List W} (hs : s.length = 8) (hv : v.length = 8) : mix s v 8 = List.zipWith (· + ·) s v := by
  simp [mix, hs, hv, List.take_of_length_le, List.drop_eq_nil_of_le]
def block (s : List W) (b : List UInt8) : List W := List.zipWith (· + ·) s (rounds s (sched b 64) 64)
theorem block_length {s : List W} (hs : s.length = 8) (b : List UInt8) : (block s b).length = 8 := by simp [block, hs, rounds_length hs]
def blocks (s : List W) (b : List UInt8) : Nat → List W
  | 0 => s
  | n + 1 => block (blocks s b n) ((b.drop (64 * n)).take 64)
theorem blocks_length {s : List W} (hs : s.length = 8) (b : List UInt8) : ∀ n, (blocks s b n).length = 8
  | 0 => hs
  | n + 1 => block_length (blocks_length hs b n) _
def be (n : Nat) : List UInt8 := (List.range 8).map fun i => UInt8.ofNat (n / 256 ^ (7 - i))
theorem be_length (n : Nat) : (be n).length = 8 := by simp [be]
def zeros (n : Nat) : Nat := (119 - n % 64) % 64
def pad (s : List UInt8) : List UInt8 := s ++ [128] ++ List.replicate (zeros s.length) 0 ++ be (8 * s.length)
def out (v : List W) : List UInt8 := v.flatMap fun (x : W) => [lo8 (x >>> 24), lo8 (x >>> 16), lo8 (x >>> 8), lo8 x]
theorem out_length (v : List W) : (out v).length = 4 * v.length := by
  induction v with
  | nil => rfl
  | cons x v ih => rw [out, List.flatMap_cons, List.length_append]; show 4 + (out v).length = _; rw [ih]; simp; omega
def sum (s : List UInt8) : List UInt8 := out (blocks H0 (pad s) ((pad s).length / 64))
theorem sum_length (s : List UInt8) : (sum s).length = 32 := by rw [sum, out_length, blocks_length rfl]
theorem pad_length (s : List UInt8) : (pad s).length = s.length + 9 + zeros s.length := by simp [pad, be_length]; omega
/-- Blocks that lie in the text are the text's. -/
theorem blocks_more (v : List W) (s t : List UInt8) : ∀ n, 64 * n ≤ s.length → blocks v (s ++ t) n = blocks v s n
  | 0, _ => rfl
  | n + 1, h => by
    rw [blocks, blocks, blocks_more v s t n (by omega), List.drop_append_of_le_length (by omega), List.take_append_of_le_length (by simp; omega)]
theorem blocks_pad (v : List W) (s : List UInt8) {n : Nat} (h : 64 * n ≤ s.length) : blocks v (pad s) n = blocks v s n := by
  rw [pad, List.append_assoc, List.append_assoc]
  exact blocks_more v s _ n h

/-! ### The end, as it is laid -/
/-- i bytes of the length are laid. n: how many bytes of the text are left; m: how many bytes are to be taken in. -/
def tail (t : List UInt8) (m bits i : Nat) : List UInt8 := t ++ [128] ++ List.replicate (m - 9 - t.length + (8 - i)) 0 ++ (be bits).drop (8 - i) ++ List.replicate (128 - m) 0
theorem tail_zero (t : List UInt8) (m bits : Nat) (h : t.length + 9 ≤ m) (hm : m ≤ 128) : tail t m bits 0 = t ++ [128] ++ List.replicate (127 - t.length) 0 := by
  simp only [tail, Nat.sub_zero, List.drop_eq_nil_of_le (Nat.le_of_eq (be_length bits)), List.append_nil]
  rw [List.append_assoc (t ++ [128]), List.replicate_append_replicate]
  congr 2
  omega
theorem tail_length (t : List UInt8) (m bits i : Nat) (h : t.length + 9 ≤ m) (hm : m ≤ 128) (hi : i ≤ 8) : (tail t m bits i).length = 128 := by
  simp [tail, be_length]; omega
theorem tail_succ (t : List UInt8) (m bits i : Nat) (h : t.length + 9 ≤ m) (hi : i < 8) : (tail t m bits i).set (m - 1 - i) (UInt8.ofNat (bits / 256 ^ i)) = tail t m bits (i + 1) := by
  have e1 : m - 9 - t.length + (8 - i) = (m - 9 - t.length + (8 - (i + 1))) + 1 := by omega
  have e2 : (be bits).drop (8 - (i + 1)) = UInt8.ofNat (bits / 256 ^ i) :: (be bits).drop (8 - i) := by
    rw [List.drop_eq_getElem_cons (by rw [be_length]; omega), show 8 - (i + 1) + 1 = 8 - i by omega]
    congr 1
    simp only [be, List.getElem_map, List.getElem_range]
    congr 3
    omega
  unfold tail
  rw [e1, e2, List.replicate_succ']
  simp only [List.append_assoc]
  rw [List.set_append_right _ _ (by omega), List.set_append_right _ _ (by simp; omega), List.set_append_right _ _ (by simp; omega)]
  have e3 : m - 1 - i - t.length - [(128 : UInt8)].length - (List.replicate (m - 9 - t.length + (8 - (i + 1))) (0 : UInt8)).length = 0 := by simp; omega
  rw [e3]
  simp
theorem tail_pad (s : List UInt8) (q m : Nat) (h1 : 64 * q ≤ s.length) (h2 : s.length < 64 * q + 64) (hm : m = if 56 ≤ s.length - 64 * q then 128 else 64) : (tail (s.drop (64 * q)) m (8 * s.length) 8).take m = (pad s).drop (64 * q) ∧ (pad s).length = 64 * q + m := by
  have hp := pad_length s
  have hz : zeros s.length = m - 9 - (s.length - 64 * q) := by
    unfold zeros
    have : s.length % 64 = s.length - 64 * q := by omega
    rw [this]
    split at hm <;> omega
  have hle : s.length - 64 * q + 9 ≤ m := by split at hm <;> omega
  refine ⟨?_, by omega⟩
  unfold tail pad
  rw [hz]
  simp only [List.length_drop, Nat.sub_self, Nat.add_zero, List.drop_zero, List.append_assoc]
  rw [List.drop_append_of_le_length h1]
  rw [← List.append_assoc, ← List.append_assoc, ← List.append_assoc, List.take_left' (by simp [be_length]; omega)]
  simp only [List.append_assoc]
theorem blocks_from (v : List W) (b : List UInt8) (q : Nat) : ∀ n, blocks (blocks v b q) (b.drop (64 * q)) n = blocks v b (q + n)
  | 0 => rfl
  | n + 1 => by
    rw [blocks, blocks_from v b q n, List.drop_drop, show 64 * q + 64 * n = 64 * (q + n) by omega]
    rfl
theorem tail_block (s : List UInt8) (q m j : Nat) (h1 : 64 * q ≤ s.length) (h2 : s.length < 64 * q + 64) (hm : m = if 56 ≤ s.length - 64 * q then 128 else 64) (hj : 64 * j + 64 ≤ m) :
    ((tail (s.drop (64 * q)) m (8 * s.length) 8).drop (64 * j)).take 64 = (((pad s).drop (64 * q)).drop (64 * j)).take 64 := by
  rw [← (tail_pad s q m h1 h2 hm).1, List.drop_take, List.take_take, Nat.min_eq_left (by omega)]
theorem sum_is (s : List UInt8) (q m : Nat) (h1 : 64 * q ≤ s.length) (h2 : s.length < 64 * q + 64) (hm : m = if 56 ≤ s.length - 64 * q then 128 else 64) (j : Nat) (hj : 64 * j = m) : out (blocks (blocks H0 s q) ((pad s).drop (64 * q)) j) = sum s := by
  have h := (tail_pad s q m h1 h2 hm).2
  rw [← blocks_pad H0 s h1, blocks_from, sum, show (pad s).length / 64 = q + j by omega]
theorem out_take {v : List W} {i : Nat} (h : i < v.length) : out (v.take (i + 1)) = out (v.take i) ++ [lo8 (v.getD i 0 >>> 24), lo8 (v.getD i 0 >>> 16), lo8 (v.getD i 0 >>> 8), lo8 (v.getD i 0)] := by
  rw [Oct.take_succ 0 h, out, List.flatMap_append]
  rfl
end Go.Sha
