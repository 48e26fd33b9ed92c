/- Own words: what a function hands back out of a cell; lists of words; a table that lies in the first block. -/
import Derived.Test.YtaeahloenahelaaDoorSxU
set_option linter.unusedVariables false
set_option linter.unusedSimpArgs false
namespace Go.Sx
open Go.RowKit
variable {P : Program} {n : Nat} {S : List Nat} {w0 w : World} {ss : List (Nat × Value)} {l : List It} {o : Oper} {a : Act}

theorem run_cell {fn : Func} {t ty b z : Nat} {E : TypeId} {cs : List Value} (hr : fn.results = #[.cell t ty]) (H : St n S w0 ss l a w) (hv : find ss t = some (.pointer (some ⟨b, 0, none⟩))) (ht : aggB P ty = some true) (hz : sizeB P ty = some z) (hm : It.blk b E cs ∈ l) (hl : cs.length = z) :
    (results fn a.tmps).run P w = .ok (.agg cs.toArray) w := by
  have h1 : a.tmps[t]?.getD undef = .pointer (some ⟨b, 0, none⟩) := by simpa [Array.getD_eq_getD_getElem?] using getD_of H.fr hv
  have h2 : Rd w (some ⟨b, 0, none⟩) cs := by
    have := Rd.blk (blk_at hm H.sep) 0 cs.length
    simpa using this
  subst hl
  simp [results, hr, h1, loadVar, run_isAgg' ht, run_sizeOf' hz, h2.load, asAddr]
theorem retc {fn : Func} {R : Ending → World → Prop} {t ty b z : Nat} {E : TypeId} {cs : List Value} (hr : fn.results = #[.cell t ty]) (H : St n S w0 ss l a w) (hv : find ss t = some (.pointer (some ⟨b, 0, none⟩))) (ht : aggB P ty = some true) (hz : sizeB P ty = some z) (hm : It.blk b E cs ∈ l) (hl : cs.length = z)
    (h : R (.returned (.agg cs.toArray)) w) : bodyPost P fn R .ret a w :=
  bodyPost_ret (run_cell hr H hv ht hz hm hl) H.fr.df h

theorem u32_get (L : List (BitVec 32)) (k : Nat) (h : k < L.length) : (L.map u32)[k]? = some (u32 (L.getD k 0)) := map_get u32 L k 0 h
theorem grow_get (L : List (BitVec 32)) (r : List Value) (k : Nat) (h : k < L.length) : (L.map u32 ++ r)[k]? = some (u32 (L.getD k 0)) := by
  rw [List.getElem?_append_left (by simpa using h)]
  exact u32_get L k h
theorem grow_set (L : List (BitVec 32)) (z : Value) (i m : Nat) (x : BitVec 32) (hL : L.length = i) (hm : i < m) : (L.map u32 ++ List.replicate (m - i) z).set (0 + (i : Int).toNat * 1) (u32 x) = (L ++ [x]).map u32 ++ List.replicate (m - (i + 1)) z := by
  have e : 0 + (i : Int).toNat * 1 = i := by omega
  have e2 : m - i = (m - (i + 1)) + 1 := by omega
  rw [e, e2, List.replicate_succ, List.set_append_right _ _ (by simp [hL])]
  simp [hL]
theorem pre_set (L : List (BitVec 32)) (r : List Value) (i : Nat) (v : Value) (hL : L.length = i) : (L.map u32 ++ r).set (0 + (i : Int).toNat * 1) v = L.map u32 ++ r.set 0 v := by
  have e : 0 + (i : Int).toNat * 1 = i := by omega
  rw [e, List.set_append_right _ _ (by simp [hL])]
  simp [hL]
theorem take_all {cs : List Value} {z : Nat} (h : cs.length = z) : (cs.drop 0).take z = cs := by rw [List.drop_zero, List.take_of_length_le (by omega)]
theorem spl_all {cs vs : List Value} (h : vs.length = cs.length) : spl cs 0 vs = vs := by
  unfold spl
  rw [List.take_zero, List.nil_append, Nat.zero_add, List.drop_eq_nil_of_le (by omega), List.append_nil]
theorem one_u32 (L : List (BitVec 32)) : (L.map u32).all (·.oneCell') = true := by simp [Value.oneCell']
theorem one_u8 (L : List UInt8) : (L.map u8).all (·.oneCell') = true := by simp [Value.oneCell']
theorem u32_set (L : List (BitVec 32)) (i : Nat) (x : BitVec 32) : (L.map u32).set (0 + (i : Int).toNat * 1) (u32 x) = (L.set i x).map u32 := by
  have e : 0 + (i : Int).toNat * 1 = i := by omega
  rw [e, List.map_set]
theorem u8_set (L : List UInt8) (i : Nat) (x : UInt8) : (L.map u8).set i (u8 x) = (L.set i x).map u8 := by rw [List.map_set]

/-- The table in block g. -/
def Glob (g : Nat) (T : List (BitVec 32)) (w : World) : Prop := ∀ k, k < T.length → w.cell? ⟨g, k, none⟩ = some (u32 (T.getD k 0))
theorem Glob.frm {g : Nat} {T : List (BitVec 32)} {w0 w : World} {S : List Nat} (h : Glob g T w0) (F : Frm S w0 w) (hS : g ∉ S) : Glob g T w := fun k hk => by
  have h1 := h k hk
  rw [← h1]
  exact World.cell?_of_block (F.block _ (World.block_lt_of_cell? w0 _ h1) hS)
theorem Glob.get {g : Nat} {T : List (BitVec 32)} {w : World} (h : Glob g T w) {k : Nat} (hk : k < T.length) : w.cell? ⟨g, 0 + (k : Int).toNat * 1, none⟩ = some (u32 (T.getD k 0)) := by
  have e : 0 + (k : Int).toNat * 1 = k := by omega
  rw [e]
  exact h k hk
theorem y_aidx {x i : Operand} {t e : TypeId} {len : Nat} {cs : List Value} {k : IntKind} {q : Int} {v : Value} (ho : o.op = .index t x i) (ht : P.underlying t = some (.array len e)) (ha : aggB P e = some false) (hz : sizeB P e = some 1) (hx : evO ss x = some (.agg cs.toArray)) (hi : evO ss i = some (.int k q)) (h0 : 0 ≤ q) (h1 : q < (len : Int)) (hv : cs[q.toNat]? = some v) : Yld P n S w0 ss l o v := by
  intro a w F _
  have h2 : 0 ≤ q ∧ q < (len : Int) := ⟨h0, h1⟩
  simp [execOp, ho, F.ev hx, F.ev hi, Instr.index, asIntOf, run_underlying ht, run_sizeOf' hz, h2, Go.part, run_isAgg' ha, hv]
variable {ops : Array Oper} {Q : Exit → Act → World → Prop} {rest : List Oper}
theorem st_copyT0 {x y : Operand} {t u E F : TypeId} {b len c d : Nat} {cs : List Value} {p : List UInt8} {l' : List It} (ho : o.op = .call { callee := .builtin .copy, args := #[x, y], argTypes := #[t, u] }) (ht : P.underlying t = some (.slice E)) (hz : sizeB P E = some 1)
    (hx : evO ss x = some (.slice (some ⟨b, 0, none⟩) len c)) (hy : evO ss y = some (str p)) (hu : Upd l (It.blk b F cs) (It.blk b F (spl cs 0 (p.map u8))) l') (hle : p.length ≤ len) (hpos : 0 < len) (hlen : cs.length = len) (hw : wantB ops ss o = some true) (hd : o.dst = some d) (hn : Nat.ble (d + 1) n = true) (H : St n S w0 ss l a w)
    (K : ∀ a' w', St n S w0 ((d, .int .i64 (p.length : Int)) :: ss) l' a' w' → wpList P ops Q rest a' w') : wpList P ops Q (o :: rest) a w :=
  st_copyT (k := 0) (b := b) (len := len) (c := c) ho ht hz (by
    rw [hx, if_neg (by omega)]
    simp [Addr.add]) hy hu (by omega) hlen hw hd hn H K
theorem rd_slLH {b : Nat} {E : TypeId} {T : List UInt8} {len : Nat} (k c : Nat) (hm : It.blk b E (T.map u8) ∈ l) (hlen : T.length = len) : ∀ w, Sep S w0 w l → Rd w (if len = k then some ⟨b, 0, none⟩ else (some (⟨b, 0, none⟩ : Addr)).map (·.add (k * 1))) (((T.drop k).take c).map u8) := fun w hs => by
  have h := (rd_slA (q := k) hm (by simpa using hlen) rfl rfl w hs).take c
  simpa [List.map_take, List.map_drop] using h
theorem end_zero (t : List UInt8) (h : t.length < 128) : (spl (List.replicate 128 (Value.int .u8 0)) 0 (t.map u8)).set (0 + (t.length : Int).toNat * 1) (.int .u8 128) = (t ++ [128] ++ List.replicate (127 - t.length) 0).map u8 := by
  have e : 0 + (t.length : Int).toNat * 1 = t.length := by omega
  have e2 : (List.replicate 128 (Value.int .u8 0)).drop (0 + (t.map u8).length) = Value.int .u8 0 :: List.replicate (127 - t.length) (Value.int .u8 0) := by
    rw [List.drop_replicate, List.length_map, Nat.zero_add, show 128 - t.length = (127 - t.length) + 1 by omega, List.replicate_succ]
  unfold spl
  rw [e, List.take_zero, List.nil_append, e2, List.set_append_right _ _ (by simp)]
  simp [u8]
theorem shrU (x i : Nat) (hi : i < 8) : Int.fdiv ((x : Nat) : Int) (2 ^ (min ((8 * (i : Int)).toNat) IntKind.u64.bits)) = ((x / 256 ^ i : Nat) : Int) := by
  have e : min ((8 * (i : Int)).toNat) IntKind.u64.bits = 8 * i := by show min ((8 * (i : Int)).toNat) 64 = 8 * i; omega
  have hp : (0 : Int) ≤ (2 : Int) ^ (8 * i) := Int.pow_nonneg (by omega)
  have e2 : ((2 : Int) ^ (8 * i)) = ((256 ^ i : Nat) : Int) := by rw [Int.pow_mul, Int.natCast_pow]; rfl
  rw [e, Int.fdiv_eq_ediv_of_nonneg _ hp, e2, Int.natCast_ediv]
theorem set4 (X : List UInt8) (m : Nat) (a b c d : UInt8) (i : Nat) (hX : X.length = 4 * i) (hm : 4 * i + 4 ≤ m) (p0 p1 p2 p3 : Nat) (e0 : p0 = 4 * i) (e1 : p1 = 4 * i + 1) (e2 : p2 = 4 * i + 2) (e3 : p3 = 4 * i + 3) :
    ((((X.map u8 ++ List.replicate (m - 4 * i) (Value.int .u8 0)).set p0 (u8 a)).set p1 (u8 b)).set p2 (u8 c)).set p3 (u8 d) = (X ++ [a, b, c, d]).map u8 ++ List.replicate (m - 4 * (i + 1)) (Value.int .u8 0) := by
  subst e0 e1 e2 e3
  have e : m - 4 * i = (m - 4 * (i + 1)) + 1 + 1 + 1 + 1 := by omega
  rw [e]
  simp only [List.replicate_succ]
  have hl : (X.map u8).length = 4 * i := by rw [List.length_map, hX]
  rw [List.set_append_right _ _ (by omega), List.set_append_right _ _ (by omega), List.set_append_right _ _ (by omega), List.set_append_right _ _ (by omega), hl]
  simp only [Nat.sub_self, Nat.add_sub_cancel_left, List.set_cons_zero, List.set_cons_succ, List.map_append, List.map_cons, List.map_nil, List.append_assoc, List.cons_append, List.nil_append]
theorem made_u32 (m : Nat) : (madeCells (Value.int .u32 0).cells (m * 1)).toList = List.replicate m (Value.int .u32 0) := by
  rw [Nat.mul_one]
  show (madeCells #[Value.int .u32 0] m).toList = _
  rw [toList_madeCells_one]
theorem set1 (X : List UInt8) (m i : Nat) (a : UInt8) (hX : X.length = i) (hm : i < m) : (X.map u8 ++ List.replicate (m - i) (Value.int .u8 0)).set (0 + (i : Int).toNat * 1) (u8 a) = (X ++ [a]).map u8 ++ List.replicate (m - (i + 1)) (Value.int .u8 0) := by
  have e : 0 + (i : Int).toNat * 1 = i := by omega
  have e2 : m - i = (m - (i + 1)) + 1 := by omega
  rw [e, e2, List.replicate_succ, List.set_append_right _ _ (by simp [hX])]
  simp [hX]
theorem one_u8z (L : List UInt8) (m : Nat) : (L.map u8 ++ List.replicate m (Value.int .u8 0)).all (·.oneCell') = true := by
  rw [List.all_append, one_u8, Bool.true_and, List.all_eq_true]
  intro x hx
  rw [List.eq_of_mem_replicate hx]
  rfl
end Go.Sx
