/- Own words: how arguments read: numbers, texts, structs, arrays, slices of such. -/
import Derived.Test.YtaeahloenahelaaDoorSxR
import Derived.Test.YtaeahloenahelaaDoorSxH
import Derived.Deep.Slices
set_option linter.unusedVariables false
set_option linter.unusedSimpArgs false
namespace Go.Sx
open Go.RowKit Go.WideShapes Go.ChangeAt Go.ChangeShapes

section
variable {H : Type} (enc : TypeId × Value → H) (P : Program) (W : World) (sp : Nat → Bool) (held : Bool)
def Tr (t : TypeId) (cs : List Value) : Prop := ∃ fuel x, DataW.trod enc P W 0 sp held fuel t cs = some x
end
section
variable {H : Type} {enc : TypeId × Value → H} {P : Program} {W : World} {sp : Nat → Bool} {held : Bool} {t e : TypeId} {cs : List Value}
theorem Tr.of {v : Value} {d : DataW H} {ps : List MemPlace} (h : DataW.Trod enc P W 0 sp held t v d ps) : Tr enc P W sp held t v.cells.toList := by
  obtain ⟨fuel, hf⟩ := h
  exact ⟨fuel, _, hf⟩
theorem Tr.int {k : IntKind} (h : Tr enc P W sp held t cs) (ht : P.underlying t = some (.int k)) : ∃ n, cs = [.int k n] ∧ (Lit.int k n).wf = true := by
  obtain ⟨fuel, x, hf⟩ := h
  obtain ⟨n, h1, _, h2⟩ := DataW.trod_int ht hf
  exact ⟨n, h1, h2⟩
theorem Tr.bool (h : Tr enc P W sp held t cs) (ht : P.underlying t = some .bool) : ∃ b, cs = [.bool b] := by
  obtain ⟨fuel, x, hf⟩ := h
  obtain ⟨n, h1, _⟩ := DataW.trod_bool ht hf
  exact ⟨n, h1⟩
theorem Tr.str (h : Tr enc P W sp held t cs) (ht : P.underlying t = some .string) : ∃ s : List UInt8, cs = [Sx.str s] ∧ s.length ≤ 9223372036854775807 := by
  obtain ⟨fuel, x, hf⟩ := h
  obtain ⟨n, h1, _, h2⟩ := DataW.trod_string ht hf
  exact ⟨n.data.toList, h1, by unfold maxLen at h2; simpa using h2⟩
theorem Tr.struct {fs : Array Field} (h : Tr enc P W sp held t cs) (ht : P.underlying t = some (.struct fs)) : cs.length = P.cellsOf t ∧ ∀ (i : Nat) (f : Field), fs[i]? = some f → Tr enc P W sp held f.type ((cs.drop f.offset).take (P.cellsOf f.type)) := by
  obtain ⟨fuel, x, hf⟩ := h
  obtain ⟨xs, n, _, _, h1, h2, h3⟩ := DataW.trod_struct ht hf
  refine ⟨h1, fun i f hi => ?_⟩
  have hlt : i < fs.size := (Array.getElem?_eq_some_iff.1 hi).1
  exact ⟨n, xs[i]'(by omega), by rw [h3 i f hi]; exact List.getElem?_eq_getElem _⟩
theorem Tr.array {n : Nat} (h : Tr enc P W sp held t cs) (ht : P.underlying t = some (.array n e)) : cs.length = P.cellsOf t ∧ ∀ i, i < n → Tr enc P W sp held e ((cs.drop (i * P.cellsOf e)).take (P.cellsOf e)) := by
  obtain ⟨fuel, x, hf⟩ := h
  obtain ⟨xs, m, _, _, h1, h2, h3⟩ := DataW.trod_array ht hf
  exact ⟨h1, fun i hi => ⟨m, xs[i]'(by omega), by rw [h3 i hi]; exact List.getElem?_eq_getElem _⟩⟩
theorem mapM_get {α β : Type} {f : α → Option β} : ∀ {l : List α} {r : List β}, l.mapM f = some r → r.length = l.length ∧ ∀ (i : Nat) (a : α), l[i]? = some a → f a = r[i]?
  | [], r, h => by simp at h; subst h; simp
  | x :: l, r, h => by
    simp only [List.mapM_cons, Option.bind_eq_bind, Option.bind_eq_some_iff, Option.pure_def, Option.some.injEq] at h
    obtain ⟨y, hy, ys, hys, rfl⟩ := h
    obtain ⟨h1, h2⟩ := mapM_get hys
    refine ⟨by simp [h1], fun i a hi => ?_⟩
    cases i with
    | zero => simp at hi; subst hi; simpa using hy
    | succ i => simpa using h2 i a (by simpa using hi)
theorem cells_get {w : World} {base n : Nat} {a : Addr} {cs : List Value} (h : w.cells? base a n = some cs) : cs.length = n ∧ ∀ i, i < n → w.cell? (a.add i) = cs[i]? := by
  unfold World.cells? at h
  split at h
  · obtain ⟨h1, h2⟩ := mapM_get h
    exact ⟨by simpa using h1, fun i hi => h2 i i (by simp [hi])⟩
  · cases h
theorem add_add0 {a : Addr} {w : World} {v : Value} (hc : w.cell? a = some v) (i j : Nat) : (a.add i).add j = a.add (i + j) := by
  have hs : a.spot = none := by
    unfold World.cell? at hc
    split at hc
    · split at hc
      · cases hc
      · rename_i h; simpa using h
    · cases hc
  obtain ⟨b, o, s⟩ := a
  simp only at hs
  subst hs
  simp [add_mk, Nat.add_assoc]
theorem add_zero (a : Addr) : a.add 0 = a := by simp [Addr.add]
theorem Rd.flat {w : World} {a : Addr} {z : Nat} : ∀ {rows : List (List Value)}, (∀ r ∈ rows, r.length = z) → 0 < z → (∀ i j v, (rows[i]?).bind (·[j]?) = some v → w.cell? (a.add (i * z + j)) = some v) → ∀ q v, rows.flatten[q]? = some v → w.cell? (a.add q) = some v := by
  intro rows hz hp h q v hq
  have key : ∀ (rows : List (List Value)) (q : Nat), (∀ r ∈ rows, r.length = z) → rows.flatten[q]? = some v → (rows[q / z]?).bind (·[q % z]?) = some v := by
    intro rows
    induction rows with
    | nil => intro q _ h; simp at h
    | cons r rs ih =>
      intro q hz h
      have hr : r.length = z := hz r (by simp)
      by_cases hlt : q < z
      · rw [Nat.div_eq_of_lt hlt, Nat.mod_eq_of_lt hlt]
        rw [List.flatten_cons, List.getElem?_append_left (by omega)] at h
        simpa using h
      · rw [List.flatten_cons, List.getElem?_append_right (by omega), hr] at h
        have := ih (q - z) (fun r hr => hz r (by simp [hr])) h
        have e1 : q / z = (q - z) / z + 1 := by
          conv => lhs; rw [show q = (q - z) + z by omega]
          rw [Nat.add_div_right _ hp]
        have e2 : q % z = (q - z) % z := by
          conv => lhs; rw [show q = (q - z) + z by omega]
          rw [Nat.add_mod_right]
        rw [e1, e2]
        simpa using this
  have := h _ _ _ (key rows q hz hq)
  rwa [Nat.div_add_mod' q z] at this
/-- A slice, row by row. -/
theorem Tr.sliceC (h : Tr enc P W sp held t cs) (ht : P.underlying t = some (.slice e)) (hz : 0 < P.cellsOf e) : ∃ a m c, cs = [.slice a m c] ∧ m ≤ c ∧ m ≤ 9223372036854775807 ∧ ∃ rows : List (List Value), rows.length = m ∧ Rd W a rows.flatten ∧ ∀ r ∈ rows, r.length = P.cellsOf e ∧ Tr enc P W sp held e r := by
  obtain ⟨fuel, x, hf⟩ := h
  rcases Go.Deep.open_slice ht hf with ⟨h0, _⟩ | ⟨a, len, cap, m, n, D, Pl, h0, _, hl, hm, hmm, _, hel⟩
  · exact ⟨none, 0, 0, h0, by omega, by omega, [], rfl, .inl rfl, by simp⟩
  · have hle : len ≤ m := by rw [hmm]; split <;> omega
    unfold maxLen at hm
    have hrow : ∀ i, i < len → ∃ cs', W.cells? 0 (a.add (i * P.cellsOf e)) (P.cellsOf e) = some cs' ∧ Tr enc P W sp held e cs' := fun i hi => by
      obtain ⟨cs', h1, h2⟩ := hel i (by omega)
      exact ⟨cs', h1, n, _, h2⟩
    let f : Nat → List Value := fun i => (W.cells? 0 (a.add (i * P.cellsOf e)) (P.cellsOf e)).getD []
    have hf' : ∀ i, i < len → W.cells? 0 (a.add (i * P.cellsOf e)) (P.cellsOf e) = some (f i) ∧ Tr enc P W sp held e (f i) := fun i hi => by
      obtain ⟨cs', h1, h2⟩ := hrow i hi
      have : f i = cs' := by show (W.cells? 0 _ _).getD [] = cs'; rw [h1]; rfl
      rw [this]
      exact ⟨h1, h2⟩
    refine ⟨some a, len, cap, h0, hl, by omega, (List.range len).map f, by simp, ?_, ?_⟩
    · by_cases h00 : len = 0
      · subst h00; exact .inl rfl
      · right
        refine ⟨a, rfl, Rd.flat (z := P.cellsOf e) (fun r hr => ?_) hz fun i j v hv => ?_⟩
        · obtain ⟨i, hi, rfl⟩ := List.mem_map.1 hr
          exact (cells_get (hf' i (by simpa using hi)).1).1
        · have h00' := cells_get (hf' 0 (by omega)).1
          have c0 : ∃ u, W.cell? a = some u := by
            have h1 := h00'.2 0 hz
            rw [Nat.zero_mul, add_zero, add_zero] at h1
            exact ⟨_, by rw [h1]; exact List.getElem?_eq_getElem (by omega)⟩
          obtain ⟨u, hu⟩ := c0
          simp only [List.getElem?_map, Option.bind_eq_some_iff, Option.map_eq_some_iff] at hv
          obtain ⟨r, ⟨i', hi', rfl⟩, hv⟩ := hv
          have hi : i < len ∧ i' = i := by
            have := List.getElem?_eq_some_iff.1 hi'
            obtain ⟨h1, h2⟩ := this
            simp at h1 h2
            omega
          obtain ⟨hi, rfl⟩ := hi
          obtain ⟨h1, h2⟩ := cells_get (hf' i' hi).1
          have hj : j < P.cellsOf e := by
            have := (List.getElem?_eq_some_iff.1 hv).1
            omega
          rw [← add_add0 hu, h2 j hj]
          exact hv
    · intro r hr
      obtain ⟨i, hi, rfl⟩ := List.mem_map.1 hr
      have := hf' i (by simpa using hi)
      exact ⟨(cells_get this.1).1, this.2⟩
theorem Tr.slice (h : Tr enc P W sp held t cs) (ht : P.underlying t = some (.slice e)) (hz : 0 < P.cellsOf e) : ∃ a m c, cs = [.slice a m c] ∧ m ≤ 9223372036854775807 ∧ ∃ rows : List (List Value), rows.length = m ∧ Rd W a rows.flatten ∧ ∀ r ∈ rows, r.length = P.cellsOf e ∧ Tr enc P W sp held e r := by
  obtain ⟨a, m, c, h1, _, h2⟩ := h.sliceC ht hz
  exact ⟨a, m, c, h1, h2⟩
end
/-- Rows told as values of a type of ours. -/
theorem rows_map {α : Type} {f : α → List Value} {p : α → Prop} : ∀ {rows : List (List Value)}, (∀ r ∈ rows, ∃ x, r = f x ∧ p x) → ∃ xs : List α, rows = xs.map f ∧ ∀ x ∈ xs, p x
  | [], _ => ⟨[], rfl, by simp⟩
  | r :: rs, h => by
    obtain ⟨x, hx, px⟩ := h r (by simp)
    obtain ⟨xs, hxs, pxs⟩ := rows_map (fun r' hr => h r' (List.mem_cons_of_mem _ hr))
    exact ⟨x :: xs, by rw [hx, hxs]; rfl, by simpa using ⟨px, pxs⟩⟩
def pieces (cs : List Value) : Nat → List Nat → List Value
  | _, [] => []
  | o, k :: ks => (cs.drop o).take k ++ pieces cs (o + k) ks
theorem pieces_eq (cs : List Value) : ∀ (ks : List Nat) (o : Nat), cs.length = o + ks.sum → cs.drop o = pieces cs o ks
  | [], o, h => by simp at h; simp [pieces, ← h]
  | k :: ks, o, h => by
    have := pieces_eq cs ks (o + k) (by simp at h; omega)
    rw [pieces, ← this, ← List.drop_drop, List.take_append_drop]
theorem pieces_all {cs : List Value} (ks : List Nat) (h : cs.length = ks.sum) : cs = pieces cs 0 ks := by
  have := pieces_eq cs ks 0 (by omega)
  simpa using this

/-! ### Slices of structs, read -/
theorem Rd.spot {w : World} {A : Option Addr} {cs : List Value} (h : Rd w A cs) (hp : 0 < cs.length) : ∀ ad, A = some ad → ad.spot = none := by
  rintro ad rfl
  obtain ⟨ad', e, hc⟩ := h.cell (j := 0) (v := cs[0]) (List.getElem?_eq_getElem hp)
  injection e with e
  subst e
  rw [add_zero] at hc
  unfold World.cell? at hc
  split at hc
  · split at hc
    · cases hc
    · rename_i h; simpa using h
  · cases hc
section
variable {P : Program} {n : Nat} {S : List Nat} {w0 : World} {ss : List (Nat × Value)} {l : List It} {o : Oper}
theorem y_fieldS {x : Operand} {t : TypeId} {i k k' : Nat} {A : Option Addr} {cs : List Value} (ho : o.op = .fieldAddr t x i) (hf : fieldB P t i = some k') (hx : evO ss x = some (.pointer (A.map (·.add k)))) (hr : ∀ w, Sep S w0 w l → Rd w A cs) (hne : 0 < cs.length) : Yld P n S w0 ss l o (.pointer (A.map (·.add (k + k')))) :=
  fun a w F hs => y_fieldR ho hf hx hr hne (Rd.spot (hr w hs) hne) a w F hs
theorem y_loadAS {x : Operand} {t : TypeId} {A : Option Addr} {k z : Nat} {cs ds : List Value} (ho : o.op = .load t x) (ht : aggB P t = some true) (hz : sizeB P t = some z) (hx : evO ss x = some (.pointer (A.map (·.add k)))) (hr : ∀ w, Sep S w0 w l → Rd w A cs) (hv : (cs.drop k).take z = ds) (hl : ds.length = z) (hp : 0 < z) : Yld P n S w0 ss l o (.agg ds.toArray) :=
  fun a w F hs => y_loadAR ho ht hz hx hr hv hl hp (Rd.spot (hr w hs) (by
    have : ds.length ≤ cs.length := by rw [← hv]; simp; omega
    omega)) a w F hs
end
section
variable {H : Type} {enc : TypeId × Value → H} {P : Program} {W : World} {sp : Nat → Bool} {held : Bool} {t e : TypeId} {cs : List Value}
theorem Tr.field {fs : Array Field} (h : Tr enc P W sp held t cs) (ht : P.underlying t = some (.struct fs)) (i : Nat) {f : Field} (hi : fs[i]? = some f) {o k T : Nat} (ho : f.offset = o) (hT : f.type = T) (hk : P.cellsOf T = k) : Tr enc P W sp held T ((cs.drop o).take k) := by
  have := (h.struct ht).2 i f hi
  rwa [ho, hT, hk] at this
theorem Tr.pieces {fs : Array Field} (h : Tr enc P W sp held t cs) (ht : P.underlying t = some (.struct fs)) (ks : List Nat) (hk : P.cellsOf t = ks.sum) : cs = pieces cs 0 ks := pieces_all ks (by rw [(h.struct ht).1, hk])
theorem Tr.i64 (h : Tr enc P W sp held t cs) (ht : P.underlying t = some (.int .i64)) : ∃ n, cs = [Sx.i64 n] ∧ -9223372036854775808 ≤ n ∧ n ≤ 9223372036854775807 := by
  obtain ⟨n, h1, h2⟩ := h.int ht
  exact ⟨n, h1, wf_i64 h2⟩
theorem Tr.u8 (h : Tr enc P W sp held t cs) (ht : P.underlying t = some (.int .u8)) : ∃ b : UInt8, cs = [Sx.u8 b] := by
  obtain ⟨n, h1, h2⟩ := h.int ht
  simp [Lit.wf, IntKind.min, IntKind.max, IntKind.bits, IntKind.signed] at h2
  refine ⟨UInt8.ofNat n.toNat, ?_⟩
  rw [h1]
  show [Value.int .u8 n] = [Value.int .u8 ((UInt8.ofNat n.toNat).toNat : Int)]
  rw [UInt8.toNat_ofNat']
  congr 2
  omega
theorem bytes_of : ∀ {cs : List Value}, (∀ i, i < cs.length → ∃ b : UInt8, (cs.drop i).take 1 = [Sx.u8 b]) → ∃ bs : List UInt8, cs = bs.map Sx.u8
  | [], _ => ⟨[], rfl⟩
  | c :: cs, h => by
    obtain ⟨b, hb⟩ := h 0 (by simp)
    obtain ⟨bs, hbs⟩ := bytes_of (cs := cs) (fun i hi => by simpa using h (i + 1) (by simpa using hi))
    refine ⟨b :: bs, ?_⟩
    simp at hb
    rw [hb, hbs]
    rfl
theorem Tr.bytes {n : Nat} (h : Tr enc P W sp held t cs) (ht : P.underlying t = some (.array n e)) (he : P.underlying e = some (.int .u8)) (hn : P.cellsOf t = n) (h1 : P.cellsOf e = 1) : ∃ bs : List UInt8, cs = bs.map Sx.u8 ∧ bs.length = n := by
  obtain ⟨hl, hf⟩ := h.array ht
  obtain ⟨bs, hbs⟩ := bytes_of (cs := cs) (fun i hi => by
    have := hf i (by omega)
    rw [h1, Nat.mul_one] at this
    exact this.u8 he)
  exact ⟨bs, hbs, by rw [← List.length_map (f := Sx.u8), ← hbs, hl, hn]⟩
end
end Go.Sx
