/- Own words: cells of structs told by their shape: single cells, and arrays of bytes. -/
import Derived.Test.YtaeahloenahelaaDoorSxX
import Derived.Test.YtaeahloenahelaaDoorSxY
import Derived.Test.YtaeahloenahelaaDoorSxZ
import Derived.Scope
set_option linter.unusedVariables false
set_option linter.unusedSimpArgs false
namespace Go.Sx
open Go.RowKit
section shape
variable {a b v : Value} {R R' C cs ds vs B : List Value} {t p q : List UInt8} {n o off z k : Nat}
/-! ### Lengths, single cells -/
theorem len_n : ([] : List Value).length = 0 := rfl
theorem len_c (h : R.length = n) : (a :: R).length = n + 1 := by rw [List.length_cons, h]
theorem len_b (ht : t.length = k) (h : R.length = n) : (t.map u8 ++ R).length = k + n := by rw [List.length_append, List.length_map, ht, h]
theorem len_e (ht : t.length = k) : (t.map u8).length = k := by rw [List.length_map, ht]
theorem one_c (ha : a.oneCell' = true) (h : R.all (·.oneCell') = true) : (a :: R).all (·.oneCell') = true := by rw [List.all_cons, ha, h]; rfl
theorem one_b (h : R.all (·.oneCell') = true) : (t.map u8 ++ R).all (·.oneCell') = true := by rw [List.all_append, h, one_u8]; rfl
/-! ### A part laid over cells -/
theorem spl_c (h : spl R o vs = R') : spl (a :: R) (o + 1) vs = a :: R' := by
  subst h
  unfold spl
  rw [show o + 1 + vs.length = (o + vs.length) + 1 by omega]
  rfl
theorem spl_0 : spl (a :: R) 0 [v] = v :: R := rfl
theorem spl_h (hB : B.length = z) (hv : vs.length = z) : spl (B ++ C) 0 vs = vs ++ C := by
  unfold spl
  rw [List.take_zero, List.nil_append, Nat.zero_add, List.drop_left' (by omega)]
theorem spl_a (hB : cs.length = z) (hv : vs.length = z) : spl cs 0 vs = vs := spl_all (by rw [hB, hv])
/-! ### One cell written -/
theorem set_c (h : R.set o v = R') : (a :: R).set (o + 1) v = a :: R' := by rw [List.set_cons_succ, h]
theorem set_0 : (a :: R).set 0 v = v :: R := rfl
/-! ### One cell read -/
theorem ix_c (h : R[o]? = some v) : (a :: R)[o + 1]? = some v := by rw [List.getElem?_cons_succ, h]
theorem ix_0 : (a :: R)[0]? = some a := rfl
/-! ### Some cells read -/
theorem ld_c (h : (R.drop o).take z = ds) : ((a :: R).drop (o + 1)).take z = ds := h
theorem ld_h (ht : t.length = z) : ((t.map u8 ++ R).drop 0).take z = t.map u8 := by rw [List.drop_zero, List.take_left' (by rw [List.length_map, ht])]
theorem ld_a (h : cs.length = z) : (cs.drop 0).take z = cs := take_all h
theorem agg_cells (l : List Value) : (Value.agg l.toArray).cells.toList = l := rfl
/-! ### A literal of a struct -/
theorem lay_n {place : Nat → Option (Nat × Nat)} : lay place cs [] = some cs := rfl
theorem lay_f {place : Nat → Option (Nat × Nat)} {i : Nat} {cv cs1 : List Value} {rest : List (Nat × Value)} (hp : place i = some (off, z)) (hv : v.cells.toList = cv) (hl : cv.length = z) (hn : cs.length = n) (hb : off + z ≤ n) (hs : spl cs off cv = cs1) (hr : lay place cs1 rest = some ds) : lay place cs ((i, v) :: rest) = some ds := by
  simp only [lay, hp, hv, hl, hn]
  rw [if_neg (by omega), hs, hr]
theorem lay_1 {place : Nat → Option (Nat × Nat)} {i : Nat} {cs1 : List Value} {rest : List (Nat × Value)} (hp : place i = some (off, 1)) (hn : cs.length = n) (hb : off + 1 ≤ n) (hs : spl cs off [v] = cs1) (hr : lay place cs1 rest = some ds) (hv : v.cells.toList = [v]) : lay place cs ((i, v) :: rest) = some ds :=
  lay_f hp hv rfl hn hb hs hr
end shape
section ops
variable {P : Program} {n : Nat} {S : List Nat} {w0 : World} {ss : List (Nat × Value)} {l : List It} {o : Oper}
variable {ops : Array Oper} {Q : Exit → Act → World → Prop} {rest : List Oper} {a : Act} {w : World}
theorem st_storeN {t E : TypeId} {x y : Operand} {b off z : Nat} {cs vs cs' : List Value} {v : Value} {l' : List It} (ho : o.op = .store t x y) (hz : sizeB P t = some z) (hx : evO ss x = some (.pointer (some ⟨b, off, none⟩))) (hy : evO ss y = some v) (hv : v.cells.toList = vs) (hu : Upd l (It.blk b E cs) (It.blk b E cs') l') (h1 : vs.all (·.oneCell') = true) (hl : vs.length = z)
    {m : Nat} (hm : cs.length = m) (he : spl cs off vs = cs') (hf : off + z ≤ m) (hw : wantB ops ss o = some true) (hd : o.dst = none) (H : St n S w0 ss l a w)
    (K : ∀ w', St n S w0 ss l' a w' → wpList P ops Q rest a w') : wpList P ops Q (o :: rest) a w := by
  subst he
  exact st_store ho hz hx hy hv h1 hl hu (by omega) hw hd H K
theorem st_store1N {t E : TypeId} {x y : Operand} {b off : Nat} {cs cs' : List Value} {v : Value} {l' : List It} (ho : o.op = .store t x y) (hz : sizeB P t = some 1) (hx : evO ss x = some (.pointer (some ⟨b, off, none⟩))) (hy : evO ss y = some v) (h1 : v.oneCell' = true) (hu : Upd l (It.blk b E cs) (It.blk b E cs') l')
    {m : Nat} (hm : cs.length = m) (he : cs.set off v = cs') (hf : off < m) (hw : wantB ops ss o = some true) (hd : o.dst = none) (H : St n S w0 ss l a w)
    (K : ∀ w', St n S w0 ss l' a w' → wpList P ops Q rest a w') : wpList P ops Q (o :: rest) a w := by
  subst he
  exact st_store1 ho hz hx hy h1 hu (by omega) hw hd H K
end ops
/-! ### Structs side by side -/
def PartR (P : Program) (t : TypeId) (cs : List Value) (off : Nat) (v : Value) : Prop := ∀ w, (Go.part t cs.toArray off).run P w = .ok v w
def EqR (P : Program) (d : Nat) (t : TypeId) (x y : Value) (r : Bool) : Prop := ∀ w, (Op.equalIn d t x y).run P w = .ok r w
def EqFs (P : Program) (d : Nat) (xs ys : List Value) (fs : List Field) (r : Bool) : Prop := ∀ w, (Op.eqFields d xs.toArray ys.toArray fs).run P w = .ok r w
section eqs
variable {P : Program} {t e : TypeId} {cs ds xs ys : List Value} {off z d : Nat} {v x y : Value} {r r' : Bool} {f : Field} {fs : List Field}
theorem pa_a (ht : aggB P t = some true) (hz : sizeB P t = some z) (hl : cs.length = d) (hb : off + z ≤ d) (hv : (cs.drop off).take z = ds) : PartR P t cs off (.agg ds.toArray) := by
  intro w
  subst hv hl
  simp [Go.part, run_isAgg' ht, run_sizeOf' hz, hb]
theorem pa_1 (ht : aggB P t = some false) (hv : cs[off]? = some v) : PartR P t cs off v := by
  intro w
  simp [Go.part, run_isAgg' ht, hv]
theorem eqr_int {k k' : IntKind} {a b : Int} (h : P.underlying t = some (.int k')) : EqR P (d + 1) t (.int k a) (.int k b) (decide (a = b)) := fun w => by
  rw [run_equalIn_int w d t k k' a b h]
  rfl
theorem eqr_bytes {p q : List UInt8} {m : Nat} (ht : P.underlying t = some (.array m e)) (he : P.underlying e = some (.int .u8)) (hz : sizeB P e = some 1) (hp : p.length = m) (hq : q.length = m) : EqR P (d + 2) t (.agg (p.map u8).toArray) (.agg (q.map u8).toArray) (decide (p = q)) := fun w => by
  have h := run_equalIn_bytes w d t e m ht he (fun w => run_sizeOf' hz) p q hp hq
  rw [← lbeq]
  exact h
theorem eqf_n : EqFs P d xs ys [] true := fun w => rfl
theorem eqf_c (hn : (f.name == "_") = false) (hx : PartR P f.type xs f.offset x) (hy : PartR P f.type ys f.offset y) (he : EqR P d f.type x y r) (hr : EqFs P d xs ys fs r') : EqFs P d xs ys (f :: fs) (r && r') := fun w => by
  have h1 : f.name ≠ "_" := by simpa using hn
  simp only [Op.eqFields, h1, ne_eq, not_false_eq_true, if_true, Sem.run_bind, hx w, hy w, he w, Result.andThen_ok]
  cases r
  · simp
  · simpa using hr w
theorem eqr_struct {fs : Array Field} (ht : P.underlying t = some (.struct fs)) (hp : P.stoodInHeld t = false) (h : EqFs P d xs ys fs.toList r) : EqR P (d + 1) t (.agg xs.toArray) (.agg ys.toArray) r := fun w => by
  have e : P.fieldsOf t = fs := by unfold Program.fieldsOf; rw [ht]
  rw [run_equalIn_struct w d t _ _ (by rw [e, ht]) hp, e]
  exact h w
variable {n : Nat} {S : List Nat} {w0 : World} {ss : List (Nat × Value)} {l : List It} {o : Oper}
theorem y_tneq {t' : TypeId} {a b : Operand} (ho : o.op = .binOp .neq t a b t') (hm : P.eqGuardType P.depth t = false) (hx : evO ss a = some (.agg xs.toArray)) (hy : evO ss b = some (.agg ys.toArray)) (h : EqR P 10000 t (.agg xs.toArray) (.agg ys.toArray) r) : Yld P n S w0 ss l o (.bool (!r)) := by
  intro a' w F _
  have hg := fun op (x y : Operand) xs ys => run_eqGuard_agg (P := P) (w := w) op t x y xs ys hm
  simp [execOp, ho, F.ev hx, F.ev hy, hg, run_neq_struct, h w]
end eqs
section calls
variable {P : Program} {n : Nat} {S : List Nat} {w0 : World} {ss : List (Nat × Value)} {l : List It} {o : Oper}
variable {ops : Array Oper} {Q : Exit → Act → World → Prop} {rest : List Oper} {a : Act} {w : World}
theorem Row.cap {e : TypeId} {size : Nat} {A : Option Addr} {n c : Nat} {xs : List Value} {w : World} (h : Row e size (.slice A n c) n xs w) : n ≤ c := by
  rcases h.2 with ⟨h1, h2⟩ | ⟨g, cap, cur, fz, hv, hg, h1, h2⟩
  · omega
  · injection hv with e1 e2 e3
    omega
end calls
section scope
variable {Q : Exit → Act → World → Prop} {a : Act} {w : World}
variable {P : Program} {n : Nat} {S : List Nat} {w0 : World} {ss : List (Nat × Value)} {l : List It} {o : Oper}
end scope
end Go.Sx
