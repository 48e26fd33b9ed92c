/- Part of a proof about given Go functions: contracts of functions, or plain laws. -/
import Derived.Test.YtlhddgkbbdfacaaDoorS3
import Derived.Deep.Slices
import Derived.Stop.BytesEq
/- Own words: how arguments read: numbers, texts, structs, arrays, slices of such. -/
set_option linter.unusedVariables false
set_option linter.unusedSimpArgs false
namespace Go.Sx
open Go.RowKit Go.WideShapes Go.ChangeAt Go.ChangeShapes

section
variable {H : Type} (enc : TypeId × Value → H) (P : Program) (W : World) (sp : Nat → Bool) (held : Bool)
def Tr (t : TypeId) (cs : List Value) : Prop := ∃ fuel x, DataW.trod enc P W 0 sp held fuel t cs = some x
end
section
variable {H : Type} {enc : TypeId × Value → H} {P : Program} {W : World} {sp : Nat → Bool} {held : Bool} {t e : TypeId} {cs : List Value}
theorem Tr.of {v : Value} {d : DataW H} {ps : List MemPlace} (h : DataW.Trod enc P W 0 sp held t v d ps) : Tr enc P W sp held t v.cells.toList := by
  obtain ⟨fuel, hf⟩ := h
  exact ⟨fuel, _, hf⟩
theorem Tr.int {k : IntKind} (h : Tr enc P W sp held t cs) (ht : P.underlying t = some (.int k)) : ∃ n, cs = [.int k n] ∧ (Lit.int k n).wf = true := by
  obtain ⟨fuel, x, hf⟩ := h
  obtain ⟨n, h1, _, h2⟩ := DataW.trod_int ht hf
  exact ⟨n, h1, h2⟩
theorem Tr.bool (h : Tr enc P W sp held t cs) (ht : P.underlying t = some .bool) : ∃ b, cs = [.bool b] := by
  obtain ⟨fuel, x, hf⟩ := h
  obtain ⟨n, h1, _⟩ := DataW.trod_bool ht hf
  exact ⟨n, h1⟩
theorem Tr.str (h : Tr enc P W sp held t cs) (ht : P.underlying t = some .string) : ∃ s : List UInt8, cs = [Sx.str s] ∧ s.length ≤ 9223372036854775807 := by
  obtain ⟨fuel, x, hf⟩ := h
  obtain ⟨n, h1, _, h2⟩ := DataW.trod_string ht hf
  exact ⟨n.data.toList, h1, by unfold maxLen at h2; simpa using h2⟩
theorem Tr.struct {fs : Array Field} (h : Tr enc P W sp held t cs) (ht : P.underlying t = some (.struct fs)) : cs.length = P.cellsOf t ∧ ∀ (i : Nat) (f : Field), fs[i]? = some f → Tr enc P W sp held f.type ((cs.drop f.offset).take (P.cellsOf f.type)) := by
  obtain ⟨fuel, x, hf⟩ := h
  obtain ⟨xs, n, _, _, h1, h2, h3⟩ := DataW.trod_struct ht hf
  refine ⟨h1, fun i f hi => ?_⟩
  have hlt : i < fs.size := (Array.getElem?_eq_some_iff.1 hi).1
  exact ⟨n, xs[i]'(by omega), by rw [h3 i f hi]; exact List.getElem?_eq_getElem _⟩
theorem Tr.array {n : Nat} (h : Tr enc P W sp held t cs) (ht : P.underlying t = some (.array n e)) : cs.length = P.cellsOf t ∧ ∀ i, i < n → Tr enc P W sp held e ((cs.drop (i * P.cellsOf e)).take (P.cellsOf e)) := by
  obtain ⟨fuel, x, hf⟩ := h
  obtain ⟨xs, m, _, _, h1, h2, h3⟩ := DataW.trod_array ht hf
  exact ⟨h1, fun i hi => ⟨m, xs[i]'(by omega), by rw [h3 i hi]; exact List.getElem?_eq_getElem _⟩⟩
theorem mapM_get {α β : Type} {f : α → Option β} : ∀ {l : List α} {r : List β}, l.mapM f = some r → r.length = l.length ∧ ∀ (i : Nat) (a : α), l[i]? = some a → f a = r[i]?
  | [], r, h => by simp at h; subst h; simp
  | x :: l, r, h => by
    simp only [List.mapM_cons, Option.bind_eq_bind, Option.bind_eq_some_iff, Option.pure_def, Option.some.injEq] at h
    obtain ⟨y, hy, ys, hys, rfl⟩ := h
    obtain ⟨h1, h2⟩ := mapM_get hys
    refine ⟨by simp [h1], fun i a hi => ?_⟩
    cases i with
    | zero => simp at hi; subst hi; simpa using hy
    | succ i => simpa using h2 i a (by simpa using hi)
theorem cells_get {w : World} {base n : Nat} {a : Addr} {cs : List Value} (h : w.cells? base a n = some cs) : cs.length = n ∧ ∀ i, i < n → w.cell? (a.add i) = cs[i]? := by
  unfold World.cells? at h
  split at h
  · obtain ⟨h1, h2⟩ := mapM_get h
    exact ⟨by simpa using h1, fun i hi => h2 i i (by simp [hi])⟩
  · cases h
theorem add_add0 {a : Addr} {w : World} {v : Value} (hc : w.cell? a = some v) (i j : Nat) : (a.add i).add j = a.add (i + j) := by
  have hs : a.spot = none := by
    unfold World.cell? at hc
    split at hc
    · split at hc
      · cases hc
      · rename_i h; simpa using h
    · cases hc
  obtain ⟨b, o, s⟩ := a
  simp only at hs
  subst hs
  simp [add_mk, Nat.add_assoc]
theorem add_zero (a : Addr) : a.add 0 = a := by simp [Addr.add]
theorem Rd.flat {w : World} {a : Addr} {z : Nat} : ∀ {rows : List (List Value)}, (∀ r ∈ rows, r.length = z) → 0 < z → (∀ i j v, (rows[i]?).bind (·[j]?) = some v → w.cell? (a.add (i * z + j)) = some v) → ∀ q v, rows.flatten[q]? = some v → w.cell? (a.add q) = some v := by
  intro rows hz hp h q v hq
  have key : ∀ (rows : List (List Value)) (q : Nat), (∀ r ∈ rows, r.length = z) → rows.flatten[q]? = some v → (rows[q / z]?).bind (·[q % z]?) = some v := by
    intro rows
    induction rows with
    | nil => intro q _ h; simp at h
    | cons r rs ih =>
      intro q hz h
      have hr : r.length = z := hz r (by simp)
      by_cases hlt : q < z
      · rw [Nat.div_eq_of_lt hlt, Nat.mod_eq_of_lt hlt]
        rw [List.flatten_cons, List.getElem?_append_left (by omega)] at h
        simpa using h
      · rw [List.flatten_cons, List.getElem?_append_right (by omega), hr] at h
        have := ih (q - z) (fun r hr => hz r (by simp [hr])) h
        have e1 : q / z = (q - z) / z + 1 := by
          conv => lhs; rw [show q = (q - z) + z by omega]
          rw [Nat.add_div_right _ hp]
        have e2 : q % z = (q - z) % z := by
          conv => lhs; rw [show q = (q - z) + z by omega]
          rw [Nat.add_mod_right]
        rw [e1, e2]
        simpa using this
  have := h _ _ _ (key rows q hz hq)
  rwa [Nat.div_add_mod' q z] at this
/-- A slice, row by row. -/
theorem Tr.sliceC (h : Tr enc P W sp held t cs) (ht : P.underlying t = some (.slice e)) (hz : 0 < P.cellsOf e) : ∃ a m c, cs = [.slice a m c] ∧ m ≤ c ∧ m ≤ 9223372036854775807 ∧ ∃ rows : List (List Value), rows.length = m ∧ Rd W a rows.flatten ∧ ∀ r ∈ rows, r.length = P.cellsOf e ∧ Tr enc P W sp held e r := by
  obtain ⟨fuel, x, hf⟩ := h
  rcases Go.Deep.open_slice ht hf with ⟨h0, _⟩ | ⟨a, len, cap, m, n, D, Pl, h0, _, hl, hm, hmm, _, hel⟩
  · exact ⟨none, 0, 0, h0, by omega, by omega, [], rfl, .inl rfl, by simp⟩
  · have hle : len ≤ m := by rw [hmm]; split <;> omega
    unfold maxLen at hm
    have hrow : ∀ i, i < len → ∃ cs', W.cells? 0 (a.add (i * P.cellsOf e)) (P.cellsOf e) = some cs' ∧ Tr enc P W sp held e cs' := fun i hi => by
      obtain ⟨cs', h1, h2⟩ := hel i (by omega)
      exact ⟨cs', h1, n, _, h2⟩
    let f : Nat → List Value := fun i => (W.cells? 0 (a.add (i * P.cellsOf e)) (P.cellsOf e)).getD []
    have hf' : ∀ i, i < len → W.cells? 0 (a.add (i * P.cellsOf e)) (P.cellsOf e) = some (f i) ∧ Tr enc P W sp held e (f i) := fun i hi => by
      obtain ⟨cs', h1, h2⟩ := hrow i hi
      have : f i = cs' := by show (W.cells? 0 _ _).getD [] = cs'; rw [h1]; rfl
      rw [this]
      exact ⟨h1, h2⟩
    refine ⟨some a, len, cap, h0, hl, by omega, (List.range len).map f, by simp, ?_, ?_⟩
    · by_cases h00 : len = 0
      · subst h00; exact .inl rfl
      · right
        refine ⟨a, rfl, Rd.flat (z := P.cellsOf e) (fun r hr => ?_) hz fun i j v hv => ?_⟩
        · obtain ⟨i, hi, rfl⟩ := List.mem_map.1 hr
          exact (cells_get (hf' i (by simpa using hi)).1).1
        · have h00' := cells_get (hf' 0 (by omega)).1
          have c0 : ∃ u, W.cell? a = some u := by
            have h1 := h00'.2 0 hz
            rw [Nat.zero_mul, add_zero, add_zero] at h1
            exact ⟨_, by rw [h1]; exact List.getElem?_eq_getElem (by omega)⟩
          obtain ⟨u, hu⟩ := c0
          simp only [List.getElem?_map, Option.bind_eq_some_iff, Option.map_eq_some_iff] at hv
          obtain ⟨r, ⟨i', hi', rfl⟩, hv⟩ := hv
          have hi : i < len ∧ i' = i := by
            have := List.getElem?_eq_some_iff.1 hi'
            obtain ⟨h1, h2⟩ := this
            simp at h1 h2
            omega
          obtain ⟨hi, rfl⟩ := hi
          obtain ⟨h1, h2⟩ := cells_get (hf' i' hi).1
          have hj : j < P.cellsOf e := by
            have := (List.getElem?_eq_some_iff.1 hv).1
            omega
          rw [← add_add0 hu, h2 j hj]
          exact hv
    · intro r hr
      obtain ⟨i, hi, rfl⟩ := List.mem_map.1 hr
      have := hf' i (by simpa using hi)
      exact ⟨(cells_get this.1).1, this.2⟩
theorem Tr.slice (h : Tr enc P W sp held t cs) (ht : P.underlying t = some (.slice e)) (hz : 0 < P.cellsOf e) : ∃ a m c, cs = [.slice a m c] ∧ m ≤ 9223372036854775807 ∧ ∃ rows : List (List Value), rows.length = m ∧ Rd W a rows.flatten ∧ ∀ r ∈ rows, r.length = P.cellsOf e ∧ Tr enc P W sp held e r := by
  obtain ⟨a, m, c, h1, _, h2⟩ := h.sliceC ht hz
  exact ⟨a, m, c, h1, h2⟩
end
/-- Rows told as values of a type of ours. -/
theorem rows_map {α : Type} {f : α → List Value} {p : α → Prop} : ∀ {rows : List (List Value)}, (∀ r ∈ rows, ∃ x, r = f x ∧ p x) → ∃ xs : List α, rows = xs.map f ∧ ∀ x ∈ xs, p x
  | [], _ => ⟨[], rfl, by simp⟩
  | r :: rs, h => by
    obtain ⟨x, hx, px⟩ := h r (by simp)
    obtain ⟨xs, hxs, pxs⟩ := rows_map (fun r' hr => h r' (List.mem_cons_of_mem _ hr))
    exact ⟨x :: xs, by rw [hx, hxs]; rfl, by simpa using ⟨px, pxs⟩⟩
def pieces (cs : List Value) : Nat → List Nat → List Value
  | _, [] => []
  | o, k :: ks => (cs.drop o).take k ++ pieces cs (o + k) ks
theorem pieces_eq (cs : List Value) : ∀ (ks : List Nat) (o : Nat), cs.length = o + ks.sum → cs.drop o = pieces cs o ks
  | [], o, h => by simp at h; simp [pieces, ← h]
  | k :: ks, o, h => by
    have := pieces_eq cs ks (o + k) (by simp at h; omega)
    rw [pieces, ← this, ← List.drop_drop, List.take_append_drop]
theorem pieces_all {cs : List Value} (ks : List Nat) (h : cs.length = ks.sum) : cs = pieces cs 0 ks := by
  have := pieces_eq cs ks 0 (by omega)
  simpa using this

/-! ### Slices of structs, read -/
theorem Rd.spot {w : World} {A : Option Addr} {cs : List Value} (h : Rd w A cs) (hp : 0 < cs.length) : ∀ ad, A = some ad → ad.spot = none := by
  rintro ad rfl
  obtain ⟨ad', e, hc⟩ := h.cell (j := 0) (v := cs[0]) (List.getElem?_eq_getElem hp)
  injection e with e
  subst e
  rw [add_zero] at hc
  unfold World.cell? at hc
  split at hc
  · split at hc
    · cases hc
    · rename_i h; simpa using h
  · cases hc
section
variable {P : Program} {n : Nat} {S : List Nat} {w0 : World} {ss : List (Nat × Value)} {l : List It} {o : Oper}
theorem y_loadAS {x : Operand} {t : TypeId} {A : Option Addr} {k z : Nat} {cs ds : List Value} (ho : o.op = .load t x) (ht : aggB P t = some true) (hz : sizeB P t = some z) (hx : evO ss x = some (.pointer (A.map (·.add k)))) (hr : ∀ w, Sep S w0 w l → Rd w A cs) (hv : (cs.drop k).take z = ds) (hl : ds.length = z) (hp : 0 < z) : Yld P n S w0 ss l o (.agg ds.toArray) :=
  fun a w F hs => y_loadAR ho ht hz hx hr hv hl hp (Rd.spot (hr w hs) (by
    have : ds.length ≤ cs.length := by rw [← hv]; simp; omega
    omega)) a w F hs
end
section
variable {H : Type} {enc : TypeId × Value → H} {P : Program} {W : World} {sp : Nat → Bool} {held : Bool} {t e : TypeId} {cs : List Value}
theorem Tr.field {fs : Array Field} (h : Tr enc P W sp held t cs) (ht : P.underlying t = some (.struct fs)) (i : Nat) {f : Field} (hi : fs[i]? = some f) {o k T : Nat} (ho : f.offset = o) (hT : f.type = T) (hk : P.cellsOf T = k) : Tr enc P W sp held T ((cs.drop o).take k) := by
  have := (h.struct ht).2 i f hi
  rwa [ho, hT, hk] at this
theorem Tr.pieces {fs : Array Field} (h : Tr enc P W sp held t cs) (ht : P.underlying t = some (.struct fs)) (ks : List Nat) (hk : P.cellsOf t = ks.sum) : cs = pieces cs 0 ks := pieces_all ks (by rw [(h.struct ht).1, hk])
theorem Tr.i64 (h : Tr enc P W sp held t cs) (ht : P.underlying t = some (.int .i64)) : ∃ n, cs = [Sx.i64 n] ∧ -9223372036854775808 ≤ n ∧ n ≤ 9223372036854775807 := by
  obtain ⟨n, h1, h2⟩ := h.int ht
  exact ⟨n, h1, wf_i64 h2⟩
theorem Tr.u8 (h : Tr enc P W sp held t cs) (ht : P.underlying t = some (.int .u8)) : ∃ b : UInt8, cs = [Sx.u8 b] := by
  obtain ⟨n, h1, h2⟩ := h.int ht
  simp [Lit.wf, IntKind.min, IntKind.max, IntKind.bits, IntKind.signed] at h2
  refine ⟨UInt8.ofNat n.toNat, ?_⟩
  rw [h1]
  show [Value.int .u8 n] = [Value.int .u8 ((UInt8.ofNat n.toNat).toNat : Int)]
  rw [UInt8.toNat_ofNat']
  congr 2
  omega
theorem bytes_of : ∀ {cs : List Value}, (∀ i, i < cs.length → ∃ b : UInt8, (cs.drop i).take 1 = [Sx.u8 b]) → ∃ bs : List UInt8, cs = bs.map Sx.u8
  | [], _ => ⟨[], rfl⟩
  | c :: cs, h => by
    obtain ⟨b, hb⟩ := h 0 (by simp)
    obtain ⟨bs, hbs⟩ := bytes_of (cs := cs) (fun i hi => by simpa using h (i + 1) (by simpa using hi))
    refine ⟨b :: bs, ?_⟩
    simp at hb
    rw [hb, hbs]
    rfl
theorem Tr.bytes {n : Nat} (h : Tr enc P W sp held t cs) (ht : P.underlying t = some (.array n e)) (he : P.underlying e = some (.int .u8)) (hn : P.cellsOf t = n) (h1 : P.cellsOf e = 1) : ∃ bs : List UInt8, cs = bs.map Sx.u8 ∧ bs.length = n := by
  obtain ⟨hl, hf⟩ := h.array ht
  obtain ⟨bs, hbs⟩ := bytes_of (cs := cs) (fun i hi => by
    have := hf i (by omega)
    rw [h1, Nat.mul_one] at this
    exact this.u8 he)
  exact ⟨bs, hbs, by rw [← List.length_map (f := Sx.u8), ← hbs, hl, hn]⟩
end
end Go.Sx

/- Own words: words of 32 bits. -/
set_option linter.unusedVariables false
set_option linter.unusedSimpArgs false
namespace Go.Sx
open Go.RowKit
variable {P : Program} {n : Nat} {S : List Nat} {w0 : World} {ss : List (Nat × Value)} {l : List It} {o : Oper}

theorem wrap32 (x : Int) : IntKind.u32.wrap x = x % 4294967296 := by simp [IntKind.wrap, IntKind.bits, IntKind.signed]
theorem ofInt32 (a : BitVec 32) : BitVec.ofInt 32 (a.toNat : Int) = a := by
  rw [BitVec.ofInt_natCast]
  simp
theorem add32 (a b : BitVec 32) : IntKind.u32.wrap ((a.toNat : Int) + (b.toNat : Int)) = ((a + b).toNat : Int) := by
  rw [wrap32, BitVec.toNat_add]
  omega
theorem mul32 (a b : BitVec 32) : IntKind.u32.wrap ((a.toNat : Int) * (b.toNat : Int)) = ((a * b).toNat : Int) := by
  rw [wrap32, BitVec.toNat_mul]
  rw [← Int.natCast_mul]
  omega
theorem shl32 (a : BitVec 32) (k : Nat) (hk : k ≤ 32) : IntKind.u32.wrap ((a.toNat : Int) * 2 ^ (min ((k : Int).toNat) IntKind.u32.bits)) = ((a <<< k).toNat : Int) := by
  have e : min ((k : Int).toNat) IntKind.u32.bits = k := by show min ((k : Int).toNat) 32 = k; rw [Int.toNat_natCast]; omega
  rw [e, wrap32, BitVec.toNat_shiftLeft, Nat.shiftLeft_eq]
  have e2 : ((a.toNat : Int) * 2 ^ k) = ((a.toNat * 2 ^ k : Nat) : Int) := by rw [Int.natCast_mul, Int.natCast_pow]; rfl
  rw [e2]
  omega
theorem shr32 (a : BitVec 32) (k : Nat) (hk : k ≤ 32) : Int.fdiv (a.toNat : Int) (2 ^ (min ((k : Int).toNat) IntKind.u32.bits)) = ((a >>> k).toNat : Int) := by
  have e : min ((k : Int).toNat) IntKind.u32.bits = k := by show min ((k : Int).toNat) 32 = k; rw [Int.toNat_natCast]; omega
  have hp : (0 : Int) ≤ (2 : Int) ^ k := Int.pow_nonneg (by omega)
  rw [e, Int.fdiv_eq_ediv_of_nonneg _ hp, BitVec.toNat_ushiftRight, Nat.shiftRight_eq_div_pow]
  have e2 : ((2 : Int) ^ k) = ((2 ^ k : Nat) : Int) := by rw [Int.natCast_pow]; rfl
  rw [e2, Int.natCast_ediv]
theorem and32 (a b : BitVec 32) : IntKind.u32.wrap ((BitVec.ofInt IntKind.u32.bits (a.toNat : Int) &&& BitVec.ofInt IntKind.u32.bits (b.toNat : Int)).toNat : Int) = ((a &&& b).toNat : Int) := by
  show IntKind.u32.wrap ((BitVec.ofInt 32 (a.toNat : Int) &&& BitVec.ofInt 32 (b.toNat : Int)).toNat : Int) = _
  rw [ofInt32, ofInt32, wrap32]
  have := (a &&& b).isLt
  omega
theorem or32 (a b : BitVec 32) : IntKind.u32.wrap ((BitVec.ofInt IntKind.u32.bits (a.toNat : Int) ||| BitVec.ofInt IntKind.u32.bits (b.toNat : Int)).toNat : Int) = ((a ||| b).toNat : Int) := by
  show IntKind.u32.wrap ((BitVec.ofInt 32 (a.toNat : Int) ||| BitVec.ofInt 32 (b.toNat : Int)).toNat : Int) = _
  rw [ofInt32, ofInt32, wrap32]
  have := (a ||| b).isLt
  omega
theorem xor32 (a b : BitVec 32) : IntKind.u32.wrap ((BitVec.ofInt IntKind.u32.bits (a.toNat : Int) ^^^ BitVec.ofInt IntKind.u32.bits (b.toNat : Int)).toNat : Int) = ((a ^^^ b).toNat : Int) := by
  show IntKind.u32.wrap ((BitVec.ofInt 32 (a.toNat : Int) ^^^ BitVec.ofInt 32 (b.toNat : Int)).toNat : Int) = _
  rw [ofInt32, ofInt32, wrap32]
  have := (a ^^^ b).isLt
  omega
/-- What a constant is, as a word. -/
theorem k32 {x : Operand} {m : Int} (h : evO ss x = some (.int .u32 m)) (k : Nat) (e : ((BitVec.ofNat 32 k).toNat : Int) = m) : evO ss x = some (u32 (BitVec.ofNat 32 k)) := by rw [h, ← e]
theorem y_add32 {t t' : TypeId} {x y : Operand} {p q : BitVec 32} (ho : o.op = .binOp .add t x y t') (hx : evO ss x = some (u32 p)) (hy : evO ss y = some (u32 q)) : Yld P n S w0 ss l o (u32 (p + q)) := y_add ho hx hy (add32 p q)
theorem y_mul32 {t t' : TypeId} {x y : Operand} {p q : BitVec 32} (ho : o.op = .binOp .mul t x y t') (hx : evO ss x = some (u32 p)) (hy : evO ss y = some (u32 q)) : Yld P n S w0 ss l o (u32 (p * q)) := y_mul ho hx hy (mul32 p q)
theorem y_and32 {t t' : TypeId} {x y : Operand} {p q : BitVec 32} (ho : o.op = .binOp .and t x y t') (hx : evO ss x = some (u32 p)) (hy : evO ss y = some (u32 q)) : Yld P n S w0 ss l o (u32 (p &&& q)) := y_and ho hx hy (and32 p q)
theorem y_or32 {t t' : TypeId} {x y : Operand} {p q : BitVec 32} (ho : o.op = .binOp .or t x y t') (hx : evO ss x = some (u32 p)) (hy : evO ss y = some (u32 q)) : Yld P n S w0 ss l o (u32 (p ||| q)) := y_or ho hx hy (or32 p q)
theorem y_xor32 {t t' : TypeId} {x y : Operand} {p q : BitVec 32} (ho : o.op = .binOp .xor t x y t') (hx : evO ss x = some (u32 p)) (hy : evO ss y = some (u32 q)) : Yld P n S w0 ss l o (u32 (p ^^^ q)) := y_xor ho hx hy (xor32 p q)
theorem y_shl32 {t t' : TypeId} {x y : Operand} {k' : IntKind} {p : BitVec 32} {k : Nat} (ho : o.op = .binOp .shl t x y t') (hx : evO ss x = some (u32 p)) (hy : evO ss y = some (.int k' (k : Int))) (hk : k ≤ 32) : Yld P n S w0 ss l o (u32 (p <<< k)) := y_shl ho hx hy (by omega) (shl32 p k hk)
theorem y_shr32 {t t' : TypeId} {x y : Operand} {k' : IntKind} {p : BitVec 32} {k : Nat} (ho : o.op = .binOp .shr t x y t') (hx : evO ss x = some (u32 p)) (hy : evO ss y = some (.int k' (k : Int))) (hk : k ≤ 32) : Yld P n S w0 ss l o (u32 (p >>> k)) := y_shr ho hx hy (by omega) (shr32 p k hk)
theorem not32 (a : BitVec 32) : IntKind.u32.wrap ((BitVec.ofInt IntKind.u32.bits IntKind.u32.max ^^^ BitVec.ofInt IntKind.u32.bits (a.toNat : Int)).toNat : Int) = ((~~~ a).toNat : Int) := by
  show IntKind.u32.wrap ((BitVec.ofInt 32 IntKind.u32.max ^^^ BitVec.ofInt 32 (a.toNat : Int)).toNat : Int) = _
  have e : BitVec.ofInt 32 IntKind.u32.max = BitVec.allOnes 32 := by decide
  rw [ofInt32, e, BitVec.allOnes_xor, wrap32]
  have := (~~~ a).isLt
  omega
theorem y_not32 {t : TypeId} {x : Operand} {p : BitVec 32} (ho : o.op = .unOp .xor t x) (hx : evO ss x = some (u32 p)) : Yld P n S w0 ss l o (u32 (~~~ p)) := by
  intro a w F _
  have h := not32 p
  have e : (if IntKind.u32.signed = true then (-1 : Int) else IntKind.u32.max) = IntKind.u32.max := by decide
  simp only [execOp, ho, F.ev hx, Op.unary, Op.intBits, e, h]
  simp
def w8 (b : UInt8) : BitVec 32 := BitVec.ofNat 32 b.toNat
theorem y_wide {s t : TypeId} {x : Operand} {b : UInt8} {d : TypeDesc} (ho : o.op = .convert s t x) (hs : P.underlying s = some d) (ht : P.underlying t = some (.int .u32)) (hx : evO ss x = some (u8 b)) : Yld P n S w0 ss l o (u32 (w8 b)) :=
  y_conv ho hs ht hx (by
    have := b.toNat_lt
    rw [wrap32, w8, BitVec.toNat_ofNat]
    omega)
def lo8 (x : BitVec 32) : UInt8 := UInt8.ofNat x.toNat
theorem y_low {s t : TypeId} {x : Operand} {p : BitVec 32} {d : TypeDesc} (ho : o.op = .convert s t x) (hs : P.underlying s = some d) (ht : P.underlying t = some (.int .u8)) (hx : evO ss x = some (u32 p)) : Yld P n S w0 ss l o (u8 (lo8 p)) :=
  y_conv ho hs ht hx (wu8_nat p.toNat)
theorem rot_or (x : BitVec 32) (n : Nat) (h0 : 0 < n) (h1 : n < 32) : x >>> n + x <<< (32 - n) = x >>> n ||| x <<< (32 - n) := by
  apply BitVec.add_eq_or_of_and_eq_zero
  ext i hi
  simp only [BitVec.getElem_and, BitVec.getElem_ushiftRight, BitVec.getElem_shiftLeft, BitVec.getElem_zero]
  by_cases h : i < 32 - n
  · simp [h]
  · simp only [h, decide_false, Bool.not_false, Bool.true_and]
    rw [BitVec.getLsbD_of_ge _ _ (by omega)]
    simp
end Go.Sx

/- Own words: what a function hands back out of a cell; lists of words; a table that lies in the first block. -/
set_option linter.unusedVariables false
set_option linter.unusedSimpArgs false
namespace Go.Sx
open Go.RowKit
variable {P : Program} {n : Nat} {S : List Nat} {w0 w : World} {ss : List (Nat × Value)} {l : List It} {o : Oper} {a : Act}

theorem run_cell {fn : Func} {t ty b z : Nat} {E : TypeId} {cs : List Value} (hr : fn.results = #[.cell t ty]) (H : St n S w0 ss l a w) (hv : find ss t = some (.pointer (some ⟨b, 0, none⟩))) (ht : aggB P ty = some true) (hz : sizeB P ty = some z) (hm : It.blk b E cs ∈ l) (hl : cs.length = z) :
    (results fn a.tmps).run P w = .ok (.agg cs.toArray) w := by
  have h1 : a.tmps[t]?.getD undef = .pointer (some ⟨b, 0, none⟩) := by simpa [Array.getD_eq_getD_getElem?] using getD_of H.fr hv
  have h2 : Rd w (some ⟨b, 0, none⟩) cs := by
    have := Rd.blk (blk_at hm H.sep) 0 cs.length
    simpa using this
  subst hl
  simp [results, hr, h1, loadVar, run_isAgg' ht, run_sizeOf' hz, h2.load, asAddr]
theorem retc {fn : Func} {R : Ending → World → Prop} {t ty b z : Nat} {E : TypeId} {cs : List Value} (hr : fn.results = #[.cell t ty]) (H : St n S w0 ss l a w) (hv : find ss t = some (.pointer (some ⟨b, 0, none⟩))) (ht : aggB P ty = some true) (hz : sizeB P ty = some z) (hm : It.blk b E cs ∈ l) (hl : cs.length = z)
    (h : R (.returned (.agg cs.toArray)) w) : bodyPost P fn R .ret a w :=
  bodyPost_ret (run_cell hr H hv ht hz hm hl) H.fr.df h

theorem u32_get (L : List (BitVec 32)) (k : Nat) (h : k < L.length) : (L.map u32)[k]? = some (u32 (L.getD k 0)) := map_get u32 L k 0 h
theorem grow_get (L : List (BitVec 32)) (r : List Value) (k : Nat) (h : k < L.length) : (L.map u32 ++ r)[k]? = some (u32 (L.getD k 0)) := by
  rw [List.getElem?_append_left (by simpa using h)]
  exact u32_get L k h
theorem grow_set (L : List (BitVec 32)) (z : Value) (i m : Nat) (x : BitVec 32) (hL : L.length = i) (hm : i < m) : (L.map u32 ++ List.replicate (m - i) z).set (0 + (i : Int).toNat * 1) (u32 x) = (L ++ [x]).map u32 ++ List.replicate (m - (i + 1)) z := by
  have e : 0 + (i : Int).toNat * 1 = i := by omega
  have e2 : m - i = (m - (i + 1)) + 1 := by omega
  rw [e, e2, List.replicate_succ, List.set_append_right _ _ (by simp [hL])]
  simp [hL]
theorem pre_set (L : List (BitVec 32)) (r : List Value) (i : Nat) (v : Value) (hL : L.length = i) : (L.map u32 ++ r).set (0 + (i : Int).toNat * 1) v = L.map u32 ++ r.set 0 v := by
  have e : 0 + (i : Int).toNat * 1 = i := by omega
  rw [e, List.set_append_right _ _ (by simp [hL])]
  simp [hL]
theorem take_all {cs : List Value} {z : Nat} (h : cs.length = z) : (cs.drop 0).take z = cs := by rw [List.drop_zero, List.take_of_length_le (by omega)]
theorem spl_all {cs vs : List Value} (h : vs.length = cs.length) : spl cs 0 vs = vs := by
  unfold spl
  rw [List.take_zero, List.nil_append, Nat.zero_add, List.drop_eq_nil_of_le (by omega), List.append_nil]
theorem one_u32 (L : List (BitVec 32)) : (L.map u32).all (·.oneCell') = true := by simp [Value.oneCell']
theorem one_u8 (L : List UInt8) : (L.map u8).all (·.oneCell') = true := by simp [Value.oneCell']
theorem u32_set (L : List (BitVec 32)) (i : Nat) (x : BitVec 32) : (L.map u32).set (0 + (i : Int).toNat * 1) (u32 x) = (L.set i x).map u32 := by
  have e : 0 + (i : Int).toNat * 1 = i := by omega
  rw [e, List.map_set]
theorem u8_set (L : List UInt8) (i : Nat) (x : UInt8) : (L.map u8).set i (u8 x) = (L.set i x).map u8 := by rw [List.map_set]

/-- The table in block g. -/
def Glob (g : Nat) (T : List (BitVec 32)) (w : World) : Prop := ∀ k, k < T.length → w.cell? ⟨g, k, none⟩ = some (u32 (T.getD k 0))
theorem Glob.frm {g : Nat} {T : List (BitVec 32)} {w0 w : World} {S : List Nat} (h : Glob g T w0) (F : Frm S w0 w) (hS : g ∉ S) : Glob g T w := fun k hk => by
  have h1 := h k hk
  rw [← h1]
  exact World.cell?_of_block (F.block _ (World.block_lt_of_cell? w0 _ h1) hS)
theorem Glob.get {g : Nat} {T : List (BitVec 32)} {w : World} (h : Glob g T w) {k : Nat} (hk : k < T.length) : w.cell? ⟨g, 0 + (k : Int).toNat * 1, none⟩ = some (u32 (T.getD k 0)) := by
  have e : 0 + (k : Int).toNat * 1 = k := by omega
  rw [e]
  exact h k hk
theorem y_aidx {x i : Operand} {t e : TypeId} {len : Nat} {cs : List Value} {k : IntKind} {q : Int} {v : Value} (ho : o.op = .index t x i) (ht : P.underlying t = some (.array len e)) (ha : aggB P e = some false) (hz : sizeB P e = some 1) (hx : evO ss x = some (.agg cs.toArray)) (hi : evO ss i = some (.int k q)) (h0 : 0 ≤ q) (h1 : q < (len : Int)) (hv : cs[q.toNat]? = some v) : Yld P n S w0 ss l o v := by
  intro a w F _
  have h2 : 0 ≤ q ∧ q < (len : Int) := ⟨h0, h1⟩
  simp [execOp, ho, F.ev hx, F.ev hi, Instr.index, asIntOf, run_underlying ht, run_sizeOf' hz, h2, Go.part, run_isAgg' ha, hv]
variable {ops : Array Oper} {Q : Exit → Act → World → Prop} {rest : List Oper}
theorem st_copyT0 {x y : Operand} {t u E F : TypeId} {b len c d : Nat} {cs : List Value} {p : List UInt8} {l' : List It} (ho : o.op = .call { callee := .builtin .copy, args := #[x, y], argTypes := #[t, u] }) (ht : P.underlying t = some (.slice E)) (hz : sizeB P E = some 1)
    (hx : evO ss x = some (.slice (some ⟨b, 0, none⟩) len c)) (hy : evO ss y = some (str p)) (hu : Upd l (It.blk b F cs) (It.blk b F (spl cs 0 (p.map u8))) l') (hle : p.length ≤ len) (hpos : 0 < len) (hlen : cs.length = len) (hw : wantB ops ss o = some true) (hd : o.dst = some d) (hn : Nat.ble (d + 1) n = true) (H : St n S w0 ss l a w)
    (K : ∀ a' w', St n S w0 ((d, .int .i64 (p.length : Int)) :: ss) l' a' w' → wpList P ops Q rest a' w') : wpList P ops Q (o :: rest) a w :=
  st_copyT (k := 0) (b := b) (len := len) (c := c) ho ht hz (by
    rw [hx, if_neg (by omega)]
    simp [Addr.add]) hy hu (by omega) hlen hw hd hn H K
theorem rd_slLH {b : Nat} {E : TypeId} {T : List UInt8} {len : Nat} (k c : Nat) (hm : It.blk b E (T.map u8) ∈ l) (hlen : T.length = len) : ∀ w, Sep S w0 w l → Rd w (if len = k then some ⟨b, 0, none⟩ else (some (⟨b, 0, none⟩ : Addr)).map (·.add (k * 1))) (((T.drop k).take c).map u8) := fun w hs => by
  have h := (rd_slA (q := k) hm (by simpa using hlen) rfl rfl w hs).take c
  simpa [List.map_take, List.map_drop] using h
theorem end_zero (t : List UInt8) (h : t.length < 128) : (spl (List.replicate 128 (Value.int .u8 0)) 0 (t.map u8)).set (0 + (t.length : Int).toNat * 1) (.int .u8 128) = (t ++ [128] ++ List.replicate (127 - t.length) 0).map u8 := by
  have e : 0 + (t.length : Int).toNat * 1 = t.length := by omega
  have e2 : (List.replicate 128 (Value.int .u8 0)).drop (0 + (t.map u8).length) = Value.int .u8 0 :: List.replicate (127 - t.length) (Value.int .u8 0) := by
    rw [List.drop_replicate, List.length_map, Nat.zero_add, show 128 - t.length = (127 - t.length) + 1 by omega, List.replicate_succ]
  unfold spl
  rw [e, List.take_zero, List.nil_append, e2, List.set_append_right _ _ (by simp)]
  simp [u8]
theorem shrU (x i : Nat) (hi : i < 8) : Int.fdiv ((x : Nat) : Int) (2 ^ (min ((8 * (i : Int)).toNat) IntKind.u64.bits)) = ((x / 256 ^ i : Nat) : Int) := by
  have e : min ((8 * (i : Int)).toNat) IntKind.u64.bits = 8 * i := by show min ((8 * (i : Int)).toNat) 64 = 8 * i; omega
  have hp : (0 : Int) ≤ (2 : Int) ^ (8 * i) := Int.pow_nonneg (by omega)
  have e2 : ((2 : Int) ^ (8 * i)) = ((256 ^ i : Nat) : Int) := by rw [Int.pow_mul, Int.natCast_pow]; rfl
  rw [e, Int.fdiv_eq_ediv_of_nonneg _ hp, e2, Int.natCast_ediv]
theorem set4 (X : List UInt8) (m : Nat) (a b c d : UInt8) (i : Nat) (hX : X.length = 4 * i) (hm : 4 * i + 4 ≤ m) (p0 p1 p2 p3 : Nat) (e0 : p0 = 4 * i) (e1 : p1 = 4 * i + 1) (e2 : p2 = 4 * i + 2) (e3 : p3 = 4 * i + 3) :
    ((((X.map u8 ++ List.replicate (m - 4 * i) (Value.int .u8 0)).set p0 (u8 a)).set p1 (u8 b)).set p2 (u8 c)).set p3 (u8 d) = (X ++ [a, b, c, d]).map u8 ++ List.replicate (m - 4 * (i + 1)) (Value.int .u8 0) := by
  subst e0 e1 e2 e3
  have e : m - 4 * i = (m - 4 * (i + 1)) + 1 + 1 + 1 + 1 := by omega
  rw [e]
  simp only [List.replicate_succ]
  have hl : (X.map u8).length = 4 * i := by rw [List.length_map, hX]
  rw [List.set_append_right _ _ (by omega), List.set_append_right _ _ (by omega), List.set_append_right _ _ (by omega), List.set_append_right _ _ (by omega), hl]
  simp only [Nat.sub_self, Nat.add_sub_cancel_left, List.set_cons_zero, List.set_cons_succ, List.map_append, List.map_cons, List.map_nil, List.append_assoc, List.cons_append, List.nil_append]
theorem made_u32 (m : Nat) : (madeCells (Value.int .u32 0).cells (m * 1)).toList = List.replicate m (Value.int .u32 0) := by
  rw [Nat.mul_one]
  show (madeCells #[Value.int .u32 0] m).toList = _
  rw [toList_madeCells_one]
theorem set1 (X : List UInt8) (m i : Nat) (a : UInt8) (hX : X.length = i) (hm : i < m) : (X.map u8 ++ List.replicate (m - i) (Value.int .u8 0)).set (0 + (i : Int).toNat * 1) (u8 a) = (X ++ [a]).map u8 ++ List.replicate (m - (i + 1)) (Value.int .u8 0) := by
  have e : 0 + (i : Int).toNat * 1 = i := by omega
  have e2 : m - i = (m - (i + 1)) + 1 := by omega
  rw [e, e2, List.replicate_succ, List.set_append_right _ _ (by simp [hX])]
  simp [hX]
theorem one_u8z (L : List UInt8) (m : Nat) : (L.map u8 ++ List.replicate m (Value.int .u8 0)).all (·.oneCell') = true := by
  rw [List.all_append, one_u8, Bool.true_and, List.all_eq_true]
  intro x hx
  rw [List.eq_of_mem_replicate hx]
  rfl
end Go.Sx

/- Own words: arrays of bytes side by side. -/
set_option linter.unusedVariables false
set_option linter.unusedSimpArgs false
namespace Go.Sx
open Go.RowKit
variable {P : Program} {n : Nat} {S : List Nat} {w0 w : World} {ss : List (Nat × Value)} {l : List It} {o : Oper} {a : Act}
theorem u8_cell : u8 = Extern.Stop.cell := rfl
theorem y_heql {t t' e : TypeId} {x y : Operand} {m : Nat} {p q : List UInt8} (ho : o.op = .binOp .eql t x y t') (hm : P.eqGuardType P.depth t = false) (ht : P.underlying t = some (.array m e)) (he : P.underlying e = some (.int .u8)) (hz : sizeB P e = some 1)
    (hx : evO ss x = some (.agg (p.map u8).toArray)) (hy : evO ss y = some (.agg (q.map u8).toArray)) (hp : p.length = m) (hq : q.length = m) : Yld P n S w0 ss l o (.bool (decide (p = q))) := by
  intro a w F _
  have h1 := run_eql_bytes w t e m ht he (fun w => run_sizeOf' hz) p q hp hq
  rw [← u8_cell, lbeq] at h1
  have hg := fun op (x y : Operand) xs ys => run_eqGuard_agg (P := P) (w := w) op t x y xs ys hm
  simp [execOp, ho, F.ev hx, F.ev hy, hg, h1]
theorem y_hneq {t t' e : TypeId} {x y : Operand} {m : Nat} {p q : List UInt8} (ho : o.op = .binOp .neq t x y t') (hm : P.eqGuardType P.depth t = false) (ht : P.underlying t = some (.array m e)) (he : P.underlying e = some (.int .u8)) (hz : sizeB P e = some 1)
    (hx : evO ss x = some (.agg (p.map u8).toArray)) (hy : evO ss y = some (.agg (q.map u8).toArray)) (hp : p.length = m) (hq : q.length = m) : Yld P n S w0 ss l o (.bool (decide (p ≠ q))) := by
  intro a w F _
  have h0 := run_equalIn_bytes w 9998 t e m ht he (fun w => run_sizeOf' hz) p q hp hq
  have h1 : (binOp .neq t (.agg (p.map u8).toArray) (.agg (q.map u8).toArray)).run P w = .ok (.bool (decide (p ≠ q))) w := by
    rw [run_neq_struct, u8_cell, h0]
    simp [lbeq]
  have hg := fun op (x y : Operand) xs ys => run_eqGuard_agg (P := P) (w := w) op t x y xs ys hm
  simp [execOp, ho, F.ev hx, F.ev hy, hg, h1]
end Go.Sx

/- Own words: how arguments read, with what they weigh. -/
set_option linter.unusedVariables false
set_option linter.unusedSimpArgs false
namespace Go.Sx
open Go.RowKit Go.WideShapes Go.ChangeAt Go.ChangeShapes

section
variable {H : Type} (enc : TypeId × Value → H) (P : Program) (W : World) (sp : Nat → Bool) (held : Bool)
def Trw (t : TypeId) (cs : List Value) : Prop := ∃ fuel x, DataW.trod enc P W 0 sp held fuel t cs = some x ∧ ∀ z ∈ x.1.weights P t, z ≤ reachBytes
end
section
variable {H : Type} {enc : TypeId × Value → H} {P : Program} {W : World} {sp : Nat → Bool} {held : Bool} {t e : TypeId} {cs : List Value}
theorem Trw.of {ts : List TypeId} {ds : List (DataW H)} {v : Value} {d : DataW H} {ps : List MemPlace} (h : DataW.Trod enc P W 0 sp held t v d ps) (hs : (DataW.weightsEach P ts ds).all (· ≤ reachBytes) = true) (j : Nat) (ht : ts[j]? = some t) (hd : ds[j]? = some d) : Trw enc P W sp held t v.cells.toList := by
  obtain ⟨fuel, hf⟩ := h
  refine ⟨fuel, _, hf, fun z hz => ?_⟩
  have := List.all_eq_true.1 hs _ (DataW.weights_mem_each ht hd z hz)
  simpa using this
theorem Trw.tr (h : Trw enc P W sp held t cs) : Tr enc P W sp held t cs := by
  obtain ⟨fuel, x, hf, _⟩ := h
  exact ⟨fuel, x, hf⟩
theorem Trw.str (h : Trw enc P W sp held t cs) (ht : P.underlying t = some .string) : ∃ s : List UInt8, cs = [Sx.str s] ∧ s.length ≤ 140737488351232 := by
  obtain ⟨fuel, x, hf, hw⟩ := h
  obtain ⟨n, h1, h2, _⟩ := DataW.trod_string ht hf
  refine ⟨n.data.toList, h1, ?_⟩
  subst h2
  exact hw _ (by simp [DataW.weights])
theorem Trw.struct {fs : Array Field} (h : Trw enc P W sp held t cs) (ht : P.underlying t = some (.struct fs)) : cs.length = P.cellsOf t ∧ ∀ (i : Nat) (f : Field), fs[i]? = some f → Trw enc P W sp held f.type ((cs.drop f.offset).take (P.cellsOf f.type)) := by
  obtain ⟨fuel, x, hf, hw⟩ := h
  obtain ⟨xs, n, _, hx, h1, h2, h3⟩ := DataW.trod_struct ht hf
  subst hx
  refine ⟨h1, fun i f hi => ?_⟩
  have hlt : i < fs.size := (Array.getElem?_eq_some_iff.1 hi).1
  refine ⟨n, xs[i]'(by omega), by rw [h3 i f hi]; exact List.getElem?_eq_getElem _, fun z hz => hw z ?_⟩
  simp only [DataW.weights, ht]
  exact DataW.weights_mem_each (j := i) (by simp [hi]) (by simp [List.getElem?_map, List.getElem?_eq_getElem (show i < xs.length by omega)]) z hz
theorem Trw.field {fs : Array Field} (h : Trw enc P W sp held t cs) (ht : P.underlying t = some (.struct fs)) (i : Nat) {f : Field} (hi : fs[i]? = some f) {o k T : Nat} (ho : f.offset = o) (hT : f.type = T) (hk : P.cellsOf T = k) : Trw enc P W sp held T ((cs.drop o).take k) := by
  have := (h.struct ht).2 i f hi
  rwa [ho, hT, hk] at this
theorem Trw.pieces {fs : Array Field} (h : Trw enc P W sp held t cs) (ht : P.underlying t = some (.struct fs)) (ks : List Nat) (hk : P.cellsOf t = ks.sum) : cs = Sx.pieces cs 0 ks := pieces_all ks (by rw [(h.struct ht).1, hk])
theorem Trw.i64 (h : Trw enc P W sp held t cs) (ht : P.underlying t = some (.int .i64)) : ∃ n, cs = [Sx.i64 n] ∧ -9223372036854775808 ≤ n ∧ n ≤ 9223372036854775807 := h.tr.i64 ht
theorem Trw.bool (h : Trw enc P W sp held t cs) (ht : P.underlying t = some .bool) : ∃ b, cs = [.bool b] := h.tr.bool ht
theorem Trw.bytes {n : Nat} (h : Trw enc P W sp held t cs) (ht : P.underlying t = some (.array n e)) (he : P.underlying e = some (.int .u8)) (hn : P.cellsOf t = n) (h1 : P.cellsOf e = 1) : ∃ bs : List UInt8, cs = bs.map Sx.u8 ∧ bs.length = n := h.tr.bytes ht he hn h1
end
end Go.Sx

/- Numbers, texts and lists as bytes: the plain laws. -/
namespace Go.Oct
/-- How many bytes a number has. -/
def blen (m : Nat) : Nat := if m = 0 then 0 else Nat.log2 m / 8 + 1
/-- The j low bytes of m, the high one first. -/
def lows : Nat → Nat → List UInt8
  | 0, _ => []
  | j + 1, m => UInt8.ofNat (m / 256 ^ j) :: lows j m
theorem lows_length : ∀ j m, (lows j m).length = j
  | 0, _ => rfl
  | j + 1, m => by simp [lows, lows_length j m]
/-- A number laid. -/
def numL (m : Nat) : List UInt8 := UInt8.ofNat (blen m) :: lows (blen m) m
/-- A number laid, or why not. -/
def number (n : Int) : List UInt8 × Int := if n < 0 then ([], 2) else (numL n.toNat, 0)

theorem blen_zero : blen 0 = 0 := rfl
theorem pow256 (k : Nat) : 256 ^ k = 2 ^ (8 * k) := by rw [Nat.pow_mul]
theorem blen_lt (m : Nat) : m < 256 ^ blen m := by
  unfold blen
  split
  · omega
  · rename_i h
    rw [pow256]
    exact Nat.lt_of_lt_of_le Nat.lt_log2_self (Nat.pow_le_pow_right (by omega) (by omega))
theorem blen_ge {m : Nat} (h : 0 < m) : 256 ^ (blen m - 1) ≤ m := by
  unfold blen
  rw [if_neg (by omega), Nat.add_sub_cancel, pow256]
  exact Nat.le_trans (Nat.pow_le_pow_right (by omega) (by omega)) (Nat.log2_self_le (by omega))
theorem blen_eq (j m : Nat) (h : m < 256 ^ j) (h2 : j = 0 ∨ 256 ^ (j - 1) ≤ m) : blen m = j := by
  rcases Nat.eq_zero_or_pos m with h0 | h0
  · subst h0
    rcases h2 with h2 | h2
    · rw [h2]; rfl
    · have : 0 < 256 ^ (j - 1) := Nat.pow_pos (by omega)
      omega
  · have hb : 0 < blen m := by unfold blen; rw [if_neg (by omega)]; omega
    have h3 := blen_lt m
    have h4 := blen_ge h0
    have h5 : blen m - 1 < j := (Nat.pow_lt_pow_iff_right (by omega : 1 < 256)).1 (Nat.lt_of_le_of_lt h4 h)
    rcases h2 with h2 | h2
    · subst h2; simp at h; omega
    · have h6 : j - 1 < blen m := (Nat.pow_lt_pow_iff_right (by omega : 1 < 256)).1 (Nat.lt_of_le_of_lt h2 h3)
      omega
theorem blen_le8 {m : Nat} (h : m ≤ 9223372036854775807) : blen m ≤ 8 := by
  rcases Nat.eq_zero_or_pos m with h0 | h0
  · subst h0; simp [blen_zero]
  · have h1 := blen_ge h0
    rcases Nat.lt_or_ge 8 (blen m) with h2 | h2
    · have h3 : 256 ^ 8 ≤ 256 ^ (blen m - 1) := Nat.pow_le_pow_right (by omega) (by omega)
      have h4 : (256 : Nat) ^ 8 = 18446744073709551616 := by decide
      omega
    · exact h2
/-- What the loop over the bytes sees. -/
theorem round_pos {m j : Nat} (hm : m ≤ 9223372036854775807) (h : 0 < m / 256 ^ j) : j ≤ 7 ∧ 256 ^ j ≤ m := by
  have hp : 0 < 256 ^ j := Nat.pow_pos (by omega)
  have h1 : 256 ^ j ≤ m := by
    have := (Nat.le_div_iff_mul_le hp).1 h
    omega
  refine ⟨?_, h1⟩
  rcases Nat.lt_or_ge 7 j with h2 | h2
  · have h3 : 256 ^ 8 ≤ 256 ^ j := Nat.pow_le_pow_right (by omega) (by omega)
    have h4 : (256 : Nat) ^ 8 = 18446744073709551616 := by decide
    omega
  · exact h2
theorem round_zero {m j : Nat} (h : m / 256 ^ j = 0) (h2 : j = 0 ∨ 256 ^ (j - 1) ≤ m) : blen m = j := by
  have hp : 0 < 256 ^ j := Nat.pow_pos (by omega)
  refine blen_eq j m ?_ h2
  rw [Nat.div_eq_zero_iff] at h
  omega
theorem round_pos' {m j : Nat} (hm : m ≤ 9223372036854775807) (h : (0 : Int) < ((m / 256 ^ j : Nat) : Int)) : j ≤ 7 ∧ 256 ^ j ≤ m := round_pos hm (Int.natCast_pos.1 h)
theorem round_zero' {m j : Nat} (h : ¬ (0 : Int) < ((m / 256 ^ j : Nat) : Int)) (h2 : j = 0 ∨ 256 ^ (j - 1) ≤ m) : blen m = j :=
  round_zero (Nat.eq_zero_of_not_pos fun hp => h (Int.natCast_pos.2 hp)) h2
theorem div_pow_succ (m j : Nat) : m / 256 ^ j / 256 = m / 256 ^ (j + 1) := by rw [Nat.div_div_eq_div_mul, ← Nat.pow_succ]

/-! ### Texts and lists -/
def textL (s : List UInt8) : List UInt8 := numL s.length ++ s
def text (s : List UInt8) : List UInt8 × Int := if 65536 < s.length then ([], 3) else (textL s, 0)
def listL (l : List (List UInt8)) : List UInt8 := numL l.length ++ (l.map textL).flatten
def list (l : List (List UInt8)) : List UInt8 × Int := if 1024 < l.length ∨ 65536 < l.flatten.length then ([], 3) else (listL l, 0)

theorem number_nat (m : Nat) : number (m : Int) = (numL m, 0) := by simp [number, show ¬ ((m : Int) < 0) by omega]
theorem numL_length (m : Nat) : (numL m).length = blen m + 1 := by simp [numL, lows_length]
theorem numL_le {m : Nat} (h : m ≤ 9223372036854775807) : (numL m).length ≤ 9 := by have := blen_le8 h; rw [numL_length]; omega
theorem textL_length (s : List UInt8) : (textL s).length = blen s.length + 1 + s.length := by simp [textL, numL_length]
theorem textL_le {s : List UInt8} (h : s.length ≤ 9223372036854775807) : (textL s).length ≤ s.length + 9 := by have := blen_le8 h; rw [textL_length]; omega

theorem getD_eq {α : Type} {l : List α} {k : Nat} (d : α) (h : k < l.length) : l.getD k d = l[k] := by simp [List.getD_eq_getElem?_getD, h]
theorem take_succ {α : Type} {l : List α} {k : Nat} (d : α) (h : k < l.length) : l.take (k + 1) = l.take k ++ [l.getD k d] := by
  rw [List.take_succ_eq_append_getElem h, getD_eq d h]
/-- The first k of some texts, one behind the other. -/
def tf (l : List (List UInt8)) (k : Nat) : List UInt8 := (l.take k).flatten
theorem tf_zero (l : List (List UInt8)) : tf l 0 = [] := by simp [tf]
theorem tf_succ {l : List (List UInt8)} {k : Nat} (h : k < l.length) : tf l (k + 1) = tf l k ++ l.getD k [] := by
  unfold tf
  rw [take_succ [] h, List.flatten_append]
  simp
theorem tf_all {l : List (List UInt8)} {k : Nat} (h : l.length ≤ k) : tf l k = l.flatten := by simp [tf, List.take_of_length_le h]
theorem tf_le (l : List (List UInt8)) (k : Nat) : (tf l k).length ≤ l.flatten.length := by
  conv => rhs; rw [← List.take_append_drop k l, List.flatten_append, List.length_append]
  exact Nat.le_add_right _ _
theorem len_le_flatten {l : List (List UInt8)} {k : Nat} (h : k < l.length) : (tf l k).length + (l.getD k []).length ≤ l.flatten.length := by
  have h1 := tf_le l (k + 1)
  rw [tf_succ h, List.length_append] at h1
  exact h1
/-- All that a list's text is made of, before it is joined. -/
def parts (l : List (List UInt8)) (k : Nat) : List (List UInt8) := numL l.length :: (l.take k).map textL
theorem parts_succ {l : List (List UInt8)} {k : Nat} (h : k < l.length) : parts l (k + 1) = parts l k ++ [textL (l.getD k [])] := by
  simp [parts, take_succ [] h]
theorem parts_length (l : List (List UInt8)) {k : Nat} (h : k ≤ l.length) : (parts l k).length = k + 1 := by simp [parts]; omega
theorem parts_flatten {l : List (List UInt8)} {k : Nat} (h : l.length ≤ k) : (parts l k).flatten = listL l := by simp [parts, listL, List.take_of_length_le h]
theorem map_textL_le : ∀ (l : List (List UInt8)), l.flatten.length ≤ 9223372036854775807 → ((l.map textL).flatten).length ≤ l.flatten.length + 9 * l.length
  | [], _ => by simp
  | s :: l, h => by
    simp only [List.flatten_cons, List.length_append] at h
    have h1 := map_textL_le l (by omega)
    have h2 := textL_le (s := s) (by omega)
    simp only [List.map_cons, List.flatten_cons, List.length_append, List.length_cons]
    omega
theorem listL_le {l : List (List UInt8)} (h1 : l.length ≤ 1024) (h2 : l.flatten.length ≤ 65536) : (listL l).length ≤ 80000 := by
  have h3 := map_textL_le l (by omega)
  have h4 := numL_le (m := l.length) (by omega)
  simp only [listL, List.length_append]
  omega
theorem list_big {l : List (List UInt8)} (h : 1024 < l.length) : list l = ([], 3) := by simp [list, h]
theorem list_long {l : List (List UInt8)} (h : 65536 < l.flatten.length) : list l = ([], 3) := by
  unfold list
  rw [if_pos (.inr h)]
theorem list_ok {l : List (List UInt8)} (h1 : ¬ 1024 < l.length) (h2 : ¬ 65536 < l.flatten.length) : list l = (listL l, 0) := by
  simp only [list, h1, h2, or_self, if_false]

/-! ### Reading -/
def val (l : List UInt8) : Nat := l.foldl (fun n b => n * 256 + b.toNat) 0
/-- What stands at a place whose first byte is k. -/
def rdk (s : List UInt8) (p k : Nat) : Int × Int × Int :=
  if 8 < k then (0, 0, 6) else if s.length < p + 1 + k then (0, 0, 5)
  else if 0 < k ∧ (s.getD (p + 1) 0 = 0 ∨ (k = 8 ∧ 127 < (s.getD (p + 1) 0).toNat)) then (0, 0, 6)
  else (((val ((s.drop (p + 1)).take k) : Nat) : Int), ((p + 1 + k : Nat) : Int), 0)
/-- A number read. -/
def rdn (s : List UInt8) (p : Int) : Int × Int × Int :=
  if p < 0 ∨ (s.length : Int) < p then (0, 0, 4) else if p = s.length then (0, 0, 5) else rdk s p.toNat (s.getD p.toNat 0).toNat

/-- The place bears a number of k bytes. -/
structure Good (s : List UInt8) (p k : Nat) : Prop where
  lt : p < s.length
  fst : (s.getD p 0).toNat = k
  le8 : k ≤ 8
  fit : p + 1 + k ≤ s.length
  form : ¬ (0 < k ∧ (s.getD (p + 1) 0 = 0 ∨ (k = 8 ∧ 127 < (s.getD (p + 1) 0).toNat)))
/-- A text read. -/
def rdt (s : List UInt8) (p : Int) : List UInt8 × Int × Int :=
  let r := rdn s p
  if r.2.2 ≠ 0 then ([], 0, r.2.2) else if 65536 < r.1 then ([], 0, 3) else if (s.length : Int) < r.2.1 + r.1 then ([], 0, 5)
  else ((s.drop r.2.1.toNat).take r.1.toNat, r.2.1 + r.1, 0)
/-- Texts read, n of them yet; sum: how many bytes they may still have. -/
def rdls (s : List UInt8) : Nat → Int → Int → List (List UInt8) → List (List UInt8) × Int × Int
  | 0, p, _, acc => (acc, p, 0)
  | n + 1, p, left, acc =>
    let r := rdt s p
    if r.2.2 ≠ 0 then ([], 0, r.2.2) else if left < r.1.length then ([], 0, 3) else rdls s n r.2.1 (left - r.1.length) (acc ++ [r.1])
/-- A list read. -/
def rdl (s : List UInt8) (p : Int) : List (List UInt8) × Int × Int :=
  let r := rdn s p
  if r.2.2 ≠ 0 then ([], 0, r.2.2) else if 1024 < r.1 then ([], 0, 3) else rdls s r.1.toNat r.2.1 65536 []
end Go.Oct
namespace Go.Oct
end Go.Oct

namespace Go.Oct
theorem text_len (s : List UInt8) : (text s).1.length ≤ 65545 := by
  unfold text
  split
  · simp
  · have := textL_le (s := s) (by omega)
    simp only
    omega
theorem flatten_take_le {l : List (List UInt8)} : ∀ {k : Nat}, k ≤ l.length → (tf l k).length ≤ 65536 → (((l.take k).map textL).flatten).length ≤ (tf l k).length + 9 * k := by
  intro k hk h
  have := map_textL_le (l.take k) (by unfold tf at h; omega)
  unfold tf
  simp only [List.length_take] at this
  have : min k l.length = k := by omega
  omega
/-- While a list is laid, its text stays short. -/
theorem parts_len {l : List (List UInt8)} {k : Nat} (hk : k ≤ l.length) (hl : l.length ≤ 140737488351232) (h : (tf l k).length ≤ 65536) : (parts l k).flatten.length ≤ 65545 + 9 * k := by
  have h1 := flatten_take_le hk h
  have h2 := numL_le (m := l.length) (by omega)
  simp only [parts, List.flatten_cons, List.length_append]
  omega
end Go.Oct

namespace Go.Oct
theorem text_ok {s : List UInt8} (h : ¬ 65536 < s.length) : text s = (textL s, 0) := by simp only [text, h, if_false]
end Go.Oct

namespace Go.Oct
end Go.Oct
