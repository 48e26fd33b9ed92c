/- Part of a proof about given Go functions: contracts of functions, or plain laws. -/
import Derived.Test.YtaeahloenahelaaDoorS5
import Derived.Test.YtaeahloenahelaaDoorS4
import Derived.Scope
import Derived.Test.YtaeahloenahelaaDoorS1
import Derived.Test.YtaeahloenahelaaDoorS2
import Derived.Test.YtaeahloenahelaaDoorS3
/- Own words: two calls or stores that may come up in either order. -/
set_option linter.unusedVariables false
set_option linter.unusedSimpArgs false
namespace Go.Sx
open Go.RowKit
variable {P : Program} {n : Nat} {S : List Nat} {w0 : World} {ss : List (Nat × Value)} {l ls : List It}
variable {rl : List Oper} {Q : Exit → Act → World → Prop} {o o' : Oper} {a : Act} {w : World} {fuel : Nat} {listed : Array Bool}
theorem wpOp_of_list {T : World → Prop} (i : Nat) (hi : rl[i]? = some o) (h : wpList P rl.toArray (HQ P rl Q T fuel (listed.setIfInBounds i true)) [o] a w) :
    wpOp P rl.toArray (NoPanic Q) i (fun a' w' => T w' ∧ wpAnyH P .any rl.toArray (NoPanic Q) T fuel (listed.setIfInBounds i true) a' w') a w := by
  unfold wpOp
  have hi' : rl.toArray[i]? = some o := by simpa using hi
  rw [hi']
  unfold wpList at h
  have hlo : ¬ LetsOut (HQ P rl Q T fuel (listed.setIfInBounds i true)) := by rintro ⟨a, w, h, _⟩; cases h
  show if _ then _ else _
  split
  · rename_i hw
    rw [if_pos hw] at h
    rcases h with h | ⟨_, h⟩
    · left
      unfold Oper.wp at h ⊢
      generalize (execOp a.eval o).run P w = r at h
      cases r with
      | ok nx w' =>
        cases nx <;> simp only [Oper.upon] at h ⊢
        case value v => exact h.2
        case skip => exact h.2
        case defer d => exact h.2
        case enter f args =>
          refine h.mono fun e w'' he => ?_
          cases e with
          | returned v => exact he.2
          | panicked c => cases he.1
          | outgrown => exact absurd he hlo
        case row r args => exact h.mono fun v w'' he => he.2
      | halt x w' =>
        cases x <;> simp only [Oper.upon] at h ⊢
        case panic v => cases h.1
    · exact absurd h hlo
  · rename_i hw
    rw [if_neg hw] at h
    exact h.2
def bothB (rl : List Oper) (listed : Array Bool) (i j : Nat) : Bool := Region.ready .any rl.toArray listed == [i, j]
theorem hgo2 {T : World → Prop} (i j : Nat) (hi : rl[i]? = some o) (hj : rl[j]? = some o') (hB : bothB rl listed i j = true) (h : wpList P rl.toArray (HQ P rl Q T fuel (listed.setIfInBounds i true)) [o] a w) (h' : wpList P rl.toArray (HQ P rl Q T fuel (listed.setIfInBounds j true)) [o'] a w) :
    wpAnyH P .any rl.toArray (NoPanic Q) T (fuel + 1) listed a w := by
  have hB' : Region.ready .any rl.toArray listed = [i, j] := by simpa [bothB] using hB
  refine wpAnyH_all hB' (by simp) fun k hk => ?_
  simp only [List.mem_cons, List.not_mem_nil, or_false] at hk
  rcases hk with rfl | rfl
  · exact wpOp_of_list _ hi h
  · exact wpOp_of_list _ hj h'
end Go.Sx

/- Own words: lists of hashes. -/
set_option linter.unusedVariables false
set_option linter.unusedSimpArgs false
namespace Go.Sx
open Go.RowKit
variable {P : Program} {n : Nat} {S : List Nat} {w0 w : World} {ss : List (Nat × Value)} {l : List It} {o : Oper} {a : Act}
theorem lay_agg {z : Nat} {base vs : List Value} {v : Value} (hv : v.cells.toList = vs) (hz : vs.length = z) (hb : base.length = z) : lay (fun i => some (i * z, z)) base [(0, v)] = some vs := by
  have e : spl base 0 vs = vs := spl_all (by rw [hz, hb])
  simp only [lay, hv, hz, hb, Nat.zero_mul, Nat.zero_add, Nat.lt_irrefl, ne_eq, not_true_eq_false, or_self, if_false, e]
/-- The cells of a list of hashes. -/
def hc (p : List (List UInt8)) : List Value := (p.map fun h => h.map u8).flatten
def H32 (p : List (List UInt8)) : Prop := ∀ h ∈ p, h.length = 32
theorem H32.getD {p : List (List UInt8)} (h : H32 p) {i : Nat} (hi : i < p.length) : (p.getD i []).length = 32 := h _ (by rw [List.getD_eq_getElem?_getD, List.getElem?_eq_getElem hi]; exact List.getElem_mem _)
theorem H32.take {p : List (List UInt8)} (h : H32 p) (k : Nat) : H32 (p.take k) := fun x hx => h x (List.mem_of_mem_take hx)
theorem H32.append {p q : List (List UInt8)} (h : H32 p) (h' : H32 q) : H32 (p ++ q) := fun x hx => by rcases List.mem_append.1 hx with hx | hx; exact h x hx; exact h' x hx
theorem H32.one {h : List UInt8} (e : h.length = 32) : H32 [h] := fun x hx => by rw [List.mem_singleton.1 hx]; exact e
section
open Go.WideShapes
variable {H : Type} {enc : TypeId × Value → H} {W : World} {sp : Nat → Bool} {held : Bool} {t e u : TypeId} {cs : List Value}
/-- A list of hashes among the arguments. -/
theorem Tr.hashes (h : Tr enc P W sp held t cs) (ht : P.underlying t = some (.slice e)) (he : P.underlying e = some (.array 32 u)) (hu : P.underlying u = some (.int .u8)) (hn : P.cellsOf e = 32) (h1 : P.cellsOf u = 1) :
    ∃ A p c, cs = [.slice A p.length c] ∧ p.length ≤ c ∧ p.length ≤ 9223372036854775807 ∧ H32 p ∧ Rd W A (hc p) := by
  obtain ⟨a, m, c, hcs, hmc, hm, rows, hr, hR, hrow⟩ := h.sliceC ht (by rw [hn]; omega)
  obtain ⟨p, hp, h32⟩ := rows_map (f := fun x : List UInt8 => x.map Sx.u8) (p := fun x => x.length = 32) (rows := rows) (fun r hr => (hrow r hr).2.bytes he hu hn h1)
  subst hp
  have hl : p.length = m := by rw [← hr, List.length_map]
  subst hl
  exact ⟨a, p, c, hcs, hmc, hm, h32, hR⟩
end
end Go.Sx

/- Own words: cells of structs told by their shape: single cells, and arrays of bytes. -/
set_option linter.unusedVariables false
set_option linter.unusedSimpArgs false
namespace Go.Sx
open Go.RowKit
section shape
variable {a b v : Value} {R R' C cs ds vs B : List Value} {t p q : List UInt8} {n o off z k : Nat}
/-! ### Lengths, single cells -/
theorem len_n : ([] : List Value).length = 0 := rfl
theorem len_c (h : R.length = n) : (a :: R).length = n + 1 := by rw [List.length_cons, h]
theorem len_b (ht : t.length = k) (h : R.length = n) : (t.map u8 ++ R).length = k + n := by rw [List.length_append, List.length_map, ht, h]
theorem len_e (ht : t.length = k) : (t.map u8).length = k := by rw [List.length_map, ht]
theorem one_n : ([] : List Value).all (·.oneCell') = true := rfl
theorem one_c (ha : a.oneCell' = true) (h : R.all (·.oneCell') = true) : (a :: R).all (·.oneCell') = true := by rw [List.all_cons, ha, h]; rfl
theorem one_b (h : R.all (·.oneCell') = true) : (t.map u8 ++ R).all (·.oneCell') = true := by rw [List.all_append, h, one_u8]; rfl
/-! ### A part laid over cells -/
theorem spl_c (h : spl R o vs = R') : spl (a :: R) (o + 1) vs = a :: R' := by
  subst h
  unfold spl
  rw [show o + 1 + vs.length = (o + vs.length) + 1 by omega]
  rfl
theorem spl_b (ht : t.length = k) (ho : k + o = off) (h : spl R o vs = R') : spl (t.map u8 ++ R) off vs = t.map u8 ++ R' := by
  subst h ho
  unfold spl
  rw [List.take_append, List.take_of_length_le (by rw [List.length_map]; omega), List.drop_append, List.drop_eq_nil_of_le (by rw [List.length_map]; omega), List.length_map, ht]
  simp only [List.nil_append, List.append_assoc]
  rw [show k + o - k = o by omega, show k + o + vs.length - k = o + vs.length by omega]
theorem spl_0 : spl (a :: R) 0 [v] = v :: R := rfl
theorem spl_a (hB : cs.length = z) (hv : vs.length = z) : spl cs 0 vs = vs := spl_all (by rw [hB, hv])
theorem spl_m (hv : vs.length = z) (hd : cs.drop z = C) (ha : vs ++ C = ds) : spl cs 0 vs = ds := by
  unfold spl
  rw [List.take_zero, List.nil_append, Nat.zero_add, hv, hd, ha]
theorem dr_c (h : R.drop o = C) : (a :: R).drop (o + 1) = C := h
theorem dr_0 : cs.drop 0 = cs := rfl
theorem dr_b (ht : t.length = k) (ho : k + o = off) (h : R.drop o = C) : (t.map u8 ++ R).drop off = C := by
  subst h ho
  rw [List.drop_append, List.drop_eq_nil_of_le (by rw [List.length_map]; omega), List.length_map, ht, List.nil_append, Nat.add_sub_cancel_left]
theorem app_c (h : R ++ C = R') : (a :: R) ++ C = a :: R' := by rw [List.cons_append, h]
theorem app_e : t.map u8 ++ C = t.map u8 ++ C := rfl
/-! ### One cell written -/
theorem set_c (h : R.set o v = R') : (a :: R).set (o + 1) v = a :: R' := by rw [List.set_cons_succ, h]
theorem set_0 : (a :: R).set 0 v = v :: R := rfl
theorem set_b (ht : t.length = k) (ho : k + o = off) (h : R.set o v = R') : (t.map u8 ++ R).set off v = t.map u8 ++ R' := by
  subst h ho
  rw [List.set_append_right _ _ (by rw [List.length_map]; omega), List.length_map, ht, Nat.add_sub_cancel_left]
/-! ### One cell read -/
theorem ix_c (h : R[o]? = some v) : (a :: R)[o + 1]? = some v := by rw [List.getElem?_cons_succ, h]
theorem ix_0 : (a :: R)[0]? = some a := rfl
theorem ix_b (ht : t.length = k) (ho : k + o = off) (h : R[o]? = some v) : (t.map u8 ++ R)[off]? = some v := by
  subst ho
  rw [List.getElem?_append_right (by rw [List.length_map]; omega), List.length_map, ht, Nat.add_sub_cancel_left, h]
/-! ### Some cells read -/
theorem ld_c (h : (R.drop o).take z = ds) : ((a :: R).drop (o + 1)).take z = ds := h
theorem ld_h (ht : t.length = z) : ((t.map u8 ++ R).drop 0).take z = t.map u8 := by rw [List.drop_zero, List.take_left' (by rw [List.length_map, ht])]
theorem ld_a (h : cs.length = z) : (cs.drop 0).take z = cs := take_all h
theorem ld_s (h : (R.drop 0).take z = ds) : ((a :: R).drop 0).take (z + 1) = a :: ds := by rw [← h]; rfl
theorem agg_cells (l : List Value) : (Value.agg l.toArray).cells.toList = l := rfl
/-! ### A literal of a struct -/
theorem lay_n {place : Nat → Option (Nat × Nat)} : lay place cs [] = some cs := rfl
theorem lay_f {place : Nat → Option (Nat × Nat)} {i : Nat} {cv cs1 : List Value} {rest : List (Nat × Value)} (hp : place i = some (off, z)) (hv : v.cells.toList = cv) (hl : cv.length = z) (hn : cs.length = n) (hb : off + z ≤ n) (hs : spl cs off cv = cs1) (hr : lay place cs1 rest = some ds) : lay place cs ((i, v) :: rest) = some ds := by
  simp only [lay, hp, hv, hl, hn]
  rw [if_neg (by omega), hs, hr]
theorem lay_1 {place : Nat → Option (Nat × Nat)} {i : Nat} {cs1 : List Value} {rest : List (Nat × Value)} (hp : place i = some (off, 1)) (hn : cs.length = n) (hb : off + 1 ≤ n) (hs : spl cs off [v] = cs1) (hr : lay place cs1 rest = some ds) (hv : v.cells.toList = [v]) : lay place cs ((i, v) :: rest) = some ds :=
  lay_f hp hv rfl hn hb hs hr
end shape
section ops
variable {P : Program} {n : Nat} {S : List Nat} {w0 : World} {ss : List (Nat × Value)} {l : List It} {o : Oper}
variable {ops : Array Oper} {Q : Exit → Act → World → Prop} {rest : List Oper} {a : Act} {w : World}
theorem st_storeN {t E : TypeId} {x y : Operand} {b off z : Nat} {cs vs cs' : List Value} {v : Value} {l' : List It} (ho : o.op = .store t x y) (hz : sizeB P t = some z) (hx : evO ss x = some (.pointer (some ⟨b, off, none⟩))) (hy : evO ss y = some v) (hv : v.cells.toList = vs) (hu : Upd l (It.blk b E cs) (It.blk b E cs') l') (h1 : vs.all (·.oneCell') = true) (hl : vs.length = z)
    {m : Nat} (hm : cs.length = m) (he : spl cs off vs = cs') (hf : off + z ≤ m) (hw : wantB ops ss o = some true) (hd : o.dst = none) (H : St n S w0 ss l a w)
    (K : ∀ w', St n S w0 ss l' a w' → wpList P ops Q rest a w') : wpList P ops Q (o :: rest) a w := by
  subst he
  exact st_store ho hz hx hy hv h1 hl hu (by omega) hw hd H K
theorem st_store1N {t E : TypeId} {x y : Operand} {b off : Nat} {cs cs' : List Value} {v : Value} {l' : List It} (ho : o.op = .store t x y) (hz : sizeB P t = some 1) (hx : evO ss x = some (.pointer (some ⟨b, off, none⟩))) (hy : evO ss y = some v) (h1 : v.oneCell' = true) (hu : Upd l (It.blk b E cs) (It.blk b E cs') l')
    {m : Nat} (hm : cs.length = m) (he : cs.set off v = cs') (hf : off < m) (hw : wantB ops ss o = some true) (hd : o.dst = none) (H : St n S w0 ss l a w)
    (K : ∀ w', St n S w0 ss l' a w' → wpList P ops Q rest a w') : wpList P ops Q (o :: rest) a w := by
  subst he
  exact st_store1 ho hz hx hy h1 hu (by omega) hw hd H K
end ops
/-! ### Structs side by side -/
def PartR (P : Program) (t : TypeId) (cs : List Value) (off : Nat) (v : Value) : Prop := ∀ w, (Go.part t cs.toArray off).run P w = .ok v w
def EqR (P : Program) (d : Nat) (t : TypeId) (x y : Value) (r : Bool) : Prop := ∀ w, (Op.equalIn d t x y).run P w = .ok r w
def EqFs (P : Program) (d : Nat) (xs ys : List Value) (fs : List Field) (r : Bool) : Prop := ∀ w, (Op.eqFields d xs.toArray ys.toArray fs).run P w = .ok r w
section eqs
variable {P : Program} {t e : TypeId} {cs ds xs ys : List Value} {off z d : Nat} {v x y : Value} {r r' : Bool} {f : Field} {fs : List Field}
theorem pa_a (ht : aggB P t = some true) (hz : sizeB P t = some z) (hl : cs.length = d) (hb : off + z ≤ d) (hv : (cs.drop off).take z = ds) : PartR P t cs off (.agg ds.toArray) := by
  intro w
  subst hv hl
  simp [Go.part, run_isAgg' ht, run_sizeOf' hz, hb]
theorem pa_1 (ht : aggB P t = some false) (hv : cs[off]? = some v) : PartR P t cs off v := by
  intro w
  simp [Go.part, run_isAgg' ht, hv]
theorem eqr_int {k k' : IntKind} {a b : Int} (h : P.underlying t = some (.int k')) : EqR P (d + 1) t (.int k a) (.int k b) (decide (a = b)) := fun w => by
  rw [run_equalIn_int w d t k k' a b h]
  rfl
theorem eqr_bytes {p q : List UInt8} {m : Nat} (ht : P.underlying t = some (.array m e)) (he : P.underlying e = some (.int .u8)) (hz : sizeB P e = some 1) (hp : p.length = m) (hq : q.length = m) : EqR P (d + 2) t (.agg (p.map u8).toArray) (.agg (q.map u8).toArray) (decide (p = q)) := fun w => by
  have h := run_equalIn_bytes w d t e m ht he (fun w => run_sizeOf' hz) p q hp hq
  rw [← lbeq]
  exact h
theorem eqf_n : EqFs P d xs ys [] true := fun w => rfl
theorem eqf_c (hn : (f.name == "_") = false) (hx : PartR P f.type xs f.offset x) (hy : PartR P f.type ys f.offset y) (he : EqR P d f.type x y r) (hr : EqFs P d xs ys fs r') : EqFs P d xs ys (f :: fs) (r && r') := fun w => by
  have h1 : f.name ≠ "_" := by simpa using hn
  simp only [Op.eqFields, h1, ne_eq, not_false_eq_true, if_true, Sem.run_bind, hx w, hy w, he w, Result.andThen_ok]
  cases r
  · simp
  · simpa using hr w
theorem eqr_struct {fs : Array Field} (ht : P.underlying t = some (.struct fs)) (hp : P.stoodInHeld t = false) (h : EqFs P d xs ys fs.toList r) : EqR P (d + 1) t (.agg xs.toArray) (.agg ys.toArray) r := fun w => by
  have e : P.fieldsOf t = fs := by unfold Program.fieldsOf; rw [ht]
  rw [run_equalIn_struct w d t _ _ (by rw [e, ht]) hp, e]
  exact h w
variable {n : Nat} {S : List Nat} {w0 : World} {ss : List (Nat × Value)} {l : List It} {o : Oper}
theorem y_teql {t' : TypeId} {a b : Operand} (ho : o.op = .binOp .eql t a b t') (hm : P.eqGuardType P.depth t = false) (hx : evO ss a = some (.agg xs.toArray)) (hy : evO ss b = some (.agg ys.toArray)) (h : EqR P 10000 t (.agg xs.toArray) (.agg ys.toArray) r) : Yld P n S w0 ss l o (.bool r) := by
  intro a' w F _
  have hg := fun op (x y : Operand) xs ys => run_eqGuard_agg (P := P) (w := w) op t x y xs ys hm
  simp [execOp, ho, F.ev hx, F.ev hy, hg, run_eql_struct, h w]
theorem y_tneq {t' : TypeId} {a b : Operand} (ho : o.op = .binOp .neq t a b t') (hm : P.eqGuardType P.depth t = false) (hx : evO ss a = some (.agg xs.toArray)) (hy : evO ss b = some (.agg ys.toArray)) (h : EqR P 10000 t (.agg xs.toArray) (.agg ys.toArray) r) : Yld P n S w0 ss l o (.bool (!r)) := by
  intro a' w F _
  have hg := fun op (x y : Operand) xs ys => run_eqGuard_agg (P := P) (w := w) op t x y xs ys hm
  simp [execOp, ho, F.ev hx, F.ev hy, hg, run_neq_struct, h w]
end eqs
section calls
variable {P : Program} {n : Nat} {S : List Nat} {w0 : World} {ss : List (Nat × Value)} {l : List It} {o : Oper}
variable {ops : Array Oper} {Q : Exit → Act → World → Prop} {rest : List Oper} {a : Act} {w : World}
theorem Row.cap {e : TypeId} {size : Nat} {A : Option Addr} {n c : Nat} {xs : List Value} {w : World} (h : Row e size (.slice A n c) n xs w) : n ≤ c := by
  rcases h.2 with ⟨h1, h2⟩ | ⟨g, cap, cur, fz, hv, hg, h1, h2⟩
  · omega
  · injection hv with e1 e2 e3
    omega
theorem row_cap {e size : Nat} {A : Option Addr} {n c : Nat} {xs : List Value} (hs : Sep S w0 w l) (hm : It.row e size (.slice A n c) n xs ∈ l) : n ≤ c := Row.cap (hs.all _ hm)
end calls
section scope
variable {Q : Exit → Act → World → Prop} {a : Act} {w : World}
variable {P : Program} {n : Nat} {S : List Nat} {w0 : World} {ss : List (Nat × Value)} {l : List It} {o : Oper}
theorem y_bstrN {s t e : TypeId} {x : Operand} {A : Option Addr} {m c : Nat} {p : List UInt8} (ho : o.op = .convert s t x) (hs : P.underlying s = some (.slice e)) (he : P.underlying e = some (.int .u8)) (ht : P.underlying t = some .string) (hx : evO ss x = some (.slice A m c)) (hr : ∀ w, Sep S w0 w l → Rd w A (p.map u8)) (hm : m = p.length) : Yld P n S w0 ss l o (str p) :=
  y_bstr ho hs he ht hx hm hr
end scope
end Go.Sx

/- Bids, receipts, batches and items as cells. -/
namespace Go.Note
open Go.Sx
abbrev I64 (n : Int) : Prop := -9223372036854775808 ≤ n ∧ n ≤ 9223372036854775807
def Bid.cells (b : Bid) : List Value := i64 b.round :: i64 b.who :: i64 b.amount :: i64 b.salt :: b.tag.map u8
structure Bid.Wf (b : Bid) : Prop where
  round : I64 b.round
  who : I64 b.who
  amount : I64 b.amount
  salt : I64 b.salt
  tag : b.tag.length = 32
end Go.Note
namespace Go.Note
open Go.Sx
def Receipt.cells (r : Receipt) : List Value := i64 r.index :: i64 r.kind :: i64 r.time :: str r.body :: (r.prev.map u8 ++ r.hash.map u8)
structure Receipt.Wf (r : Receipt) : Prop where
  index : I64 r.index
  kind : I64 r.kind
  time : I64 r.time
  body : r.body.length ≤ 140737488351232
  prev : r.prev.length = 32
  hash : r.hash.length = 32
def Item.cells (i : Item) : List Value := [i64 i.kind, i64 i.who, i64 i.n, str i.text]
structure Item.Wf (i : Item) : Prop where
  kind : I64 i.kind
  who : I64 i.who
  n : I64 i.n
  text : i.text.length ≤ 140737488351232
def Part.cells (p : Part) : List Value := [.bool p.delayed, str p.text]
def pc (ps : List Part) : List Value := (ps.map Part.cells).flatten
end Go.Note
namespace Go.Note
open Go.Sx
end Go.Note
namespace Go.Note
open Go.Sx
def Batch.cells (b : Batch) (A : Option Addr) (c : Nat) : List Value := [i64 b.seq, i64 b.first, i64 b.before, .slice A b.parts.length c]
structure Batch.Wf (b : Batch) : Prop where
  seq : I64 b.seq
  first : I64 b.first
  before : I64 b.before
  len : b.parts.length ≤ 9223372036854775807
  texts : ∀ p ∈ b.parts, p.text.length ≤ 140737488351232
end Go.Note
namespace Go.Note
open Go.Sx
end Go.Note
namespace Go.Note
open Go.Sx
end Go.Note

/- One of each, as cells. -/
namespace Go.Note
open Go.Sx
structure All where
  bid : Bid
  receipt : Receipt
  batch : Batch
  A : Option Addr
  c : Nat
  item : Item
def All.cells (x : All) : List Value :=
  i64 x.bid.round :: i64 x.bid.who :: i64 x.bid.amount :: i64 x.bid.salt :: (x.bid.tag.map u8 ++ (i64 x.receipt.index :: i64 x.receipt.kind :: i64 x.receipt.time :: str x.receipt.body :: (x.receipt.prev.map u8 ++ (x.receipt.hash.map u8 ++
    [i64 x.batch.seq, i64 x.batch.first, i64 x.batch.before, .slice x.A x.batch.parts.length x.c, i64 x.item.kind, i64 x.item.who, i64 x.item.n, str x.item.text]))))
structure All.Wf (W : World) (x : All) : Prop where
  bid : Bid.Wf x.bid
  receipt : Receipt.Wf x.receipt
  batch : Batch.Wf x.batch
  rd : Rd W x.A (pc x.batch.parts)
  item : Item.Wf x.item
end Go.Note
namespace Go.Note
open Go.Sx
end Go.Note

/- Blocks and the inbox's entries as cells. -/
namespace Go.Inbox
open Go.Sx
open Go.Note (Z I64)
theorem flat_lenM {α : Type} {f : α → List Value} {z : Nat} : ∀ (l : List α), (∀ x ∈ l, (f x).length = z) → ((l.map f).flatten).length = l.length * z
  | [], _ => by simp
  | x :: l, h => by
    have h0 := h x (by simp)
    have ih := flat_lenM l (fun y hy => h y (by simp [hy]))
    simp only [List.map_cons, List.flatten_cons, List.length_append, List.length_cons, ih, h0]
    rw [Nat.add_mul]
    omega
theorem flat_takeM {α : Type} {f : α → List Value} {z : Nat} (d : α) : ∀ (l : List α) (i : Nat), (∀ x ∈ l, (f x).length = z) → i < l.length → (((l.map f).flatten).drop (i * z)).take z = f (l.getD i d)
  | [], i, _, h => absurd h (by simp)
  | x :: l, 0, h, _ => by
    have h0 := h x (by simp)
    simp only [Nat.zero_mul, List.drop_zero, List.map_cons, List.flatten_cons]
    rw [← h0, List.take_left]
    rfl
  | x :: l, i + 1, h, hi => by
    have h0 := h x (by simp)
    have ih := flat_takeM d l i (fun y hy => h y (by simp [hy])) (by simpa using hi)
    simp only [List.map_cons, List.flatten_cons]
    rw [show (i + 1) * z = (f x).length + i * z by rw [h0, Nat.add_mul]; omega, Oct.drop_at, ih]
    rfl
theorem flat_getM {α : Type} {f : α → List Value} {z : Nat} (d : α) {l : List α} {i j : Nat} (h : ∀ x ∈ l, (f x).length = z) (hi : i < l.length) (hj : j < z) : ((l.map f).flatten)[i * z + j]? = (f (l.getD i d))[j]? := by
  rw [← flat_takeM d l i h hi, List.getElem?_take, if_pos hj, List.getElem?_drop]
def ic (l : List Note.Item) : List Value := (l.map Note.Item.cells).flatten
/-- A block, and where its items lie. -/
structure BA where
  b : Block
  A : Option Addr
  c : Nat
def BA.zero : BA := ⟨⟨0, 0, Z, []⟩, none, 0⟩
def BA.cells (x : BA) : List Value := i64 x.b.number :: i64 x.b.salt :: (x.b.parent.map u8 ++ [.slice x.A x.b.items.length x.c])
structure BA.Wf (W : World) (x : BA) : Prop where
  number : I64 x.b.number
  salt : I64 x.b.salt
  parent : x.b.parent.length = 32
  len : x.b.items.length ≤ 9223372036854775807
  items : ∀ i ∈ x.b.items, Note.Item.Wf i
  rd : Rd W x.A (ic x.b.items)
def Entry.cells (e : Entry) : List Value := i64 e.who :: str e.text :: i64 e.block :: e.acc.map u8
structure Entry.Wf (e : Entry) : Prop where
  who : I64 e.who
  text : e.text.length ≤ 140737488351232
  block : I64 e.block
  acc : e.acc.length = 32
end Go.Inbox

/- The inbox's messages, block by block and item by item. -/
namespace Go.Inbox
open Go.Note (Z)
theorem memD {α : Type} {l : List α} {k : Nat} (d : α) (h : k < l.length) : l.getD k d ∈ l := by
  rw [Oct.getD_eq d h]
  exact List.getElem_mem h
/-! ### Calls -/
end Go.Inbox

/- What the inbox must give at any rate, as cells. -/
namespace Go.Inbox
open Go.Sx
open Go.Note (Z I64)
/-- What a call names. -/
structure Q where
  n : Int
  t : Int
  wt : Int
def Q.cells (q : Q) : List Value := [Sx.i64 q.n, Sx.i64 q.t, Sx.i64 q.wt]
end Go.Inbox

/- Own words: the first blocks of a list, the first entries, worlds that grow. -/
namespace Go.Inbox
open Go.Sx
open Go.Note (Z I64)
theorem BA.Wf.frm {S : List Nat} {w0 w : World} {x : BA} (h : BA.Wf w0 x) (k : Frm S w0 w) (hS : ∀ ad, x.A = some ad → ad.block ∉ S) : BA.Wf w x := { h with rd := h.rd.frm k hS }
theorem flat_pre {α : Type} {f : α → List Value} {z : Nat} : ∀ (l : List α) (k : Nat), (∀ x ∈ l, (f x).length = z) → ((l.take k).map f).flatten = ((l.map f).flatten).take (k * z)
  | [], k, _ => by simp
  | x :: l, 0, _ => by simp
  | x :: l, k + 1, h => by
    have h1 := flat_pre l k (fun y hy => h y (List.mem_cons_of_mem _ hy))
    have h2 := h x List.mem_cons_self
    simp only [List.take_succ_cons, List.map_cons, List.flatten_cons, h1]
    rw [List.take_append, h2, List.take_of_length_le (l := f x) (by rw [h2, Nat.succ_mul]; omega), show (k + 1) * z - z = k * z by rw [Nat.succ_mul]; omega]
end Go.Inbox

/- Own words: functions as values; calls that are given several items. -/
set_option linter.unusedVariables false
set_option linter.unusedSimpArgs false
namespace Go.Sx
open Go.RowKit
variable {P : Program} {n : Nat} {S : List Nat} {w0 w : World} {ss : List (Nat × Value)} {l : List It} {o : Oper} {a : Act}
variable {ops : Array Oper} {Q : Exit → Act → World → Prop} {rest : List Oper}
theorem y_max2 {x y : Operand} {t u : TypeId} {k : IntKind} {p q : Int} (ho : o.op = .call { callee := .builtin .max, args := #[x, y], argTypes := #[t, u] }) (hx : evO ss x = some (.int k p)) (hy : evO ss y = some (.int k q)) : Yld P n S w0 ss l o (.int k (max p q)) := by
  intro a w F _
  have e : (if p < q then q else p) = max p q := by split <;> omega
  simp [execOp, ho, F.ev hx, F.ev hy, resolve, invoke, builtin, Builtin.max_, Builtin.max2, e]
theorem lay_agg2 {z : Nat} {base vs us : List Value} {v u : Value} (hv : v.cells.toList = vs) (hu : u.cells.toList = us) (hz : vs.length = z) (hy : us.length = z) (hb : base.length = 2 * z) : lay (fun i => some (i * z, z)) base [(0, v), (1, u)] = some (vs ++ us) := by
  have e1 : spl base 0 vs = vs ++ base.drop z := by unfold spl; rw [List.take_zero, List.nil_append, Nat.zero_add, hz]
  have e2 : spl (vs ++ base.drop z) z us = vs ++ us := by
    unfold spl
    rw [List.take_left' hz, hy, List.drop_eq_nil_of_le (by rw [List.length_append, List.length_drop, hz, hb]; omega), List.append_nil]
  have h1 : ¬ (vs.length ≠ z ∨ base.length < 0 + z) := by omega
  have h2 : ¬ (us.length ≠ z ∨ (vs ++ base.drop z).length < z + z) := by rw [List.length_append, List.length_drop]; omega
  unfold lay
  simp only [hv, Nat.zero_mul, if_neg h1, e1]
  unfold lay
  simp only [hu, Nat.one_mul, if_neg h2, e2]
  rfl
/-- A call that runs a function of the program on arguments. -/
def Enters (P : Program) (n : Nat) (ss : List (Nat × Value)) (o : Oper) (f : FuncId) (args : List Value) : Prop := ∀ a w, Fr n ss a → (execOp a.eval o).run P w = .ok (.enter f args.toArray) w
theorem enters_call {f : FuncId} {xs : List Operand} {ts : Array TypeId} {args : List Value} (ho : o.op = .call { callee := .value (.func f), args := xs.toArray, argTypes := ts }) (hc : callB P f = true) (ha : evs ss xs = some args) : Enters P n ss o f args :=
  fun _ _ F => run_call ho hc F ha
theorem enters_callv {g : Operand} {f : FuncId} {fs cs : List Value} {xs : List Operand} {ts : Array TypeId} {args all : List Value} (ho : o.op = .call { callee := .value g, args := xs.toArray, argTypes := ts }) (hg : evO ss g = some (.func (.func f) fs.toArray cs.toArray)) (hc : callB P f = true) (ha : evs ss xs = some args) (hall : fs ++ args ++ cs = all) : Enters P n ss o f all :=
  fun _ _ F => run_callv ho hg hc F ha (by simpa using hall)
/-- One item of several. -/
inductive Pick : List It → It → List It → Prop
  | head (i : It) (l : List It) : Pick (i :: l) i l
  | tail (x : It) {i : It} {l r : List It} : Pick l i r → Pick (x :: l) i (x :: r)
theorem Pick.perm {l r : List It} {i : It} (h : Pick l i r) : l.Perm (i :: r) := by
  induction h with
  | head i l => exact .refl _
  | tail x h ih => exact (ih.cons x).trans (.swap _ _ _)
theorem Ph {i : It} {l : List It} : Pick (i :: l) i l := .head i l
theorem Pt {x i : It} {l r : List It} (h : Pick l i r) : Pick (x :: l) i (x :: r) := .tail x h
inductive Picks : List It → List It → List It → Prop
  | nil (l : List It) : Picks l [] l
  | cons {l m r is : List It} {i : It} : Pick l i m → Picks m is r → Picks l (i :: is) r
theorem Picks.perm {l r is : List It} (h : Picks l is r) : l.Perm (is ++ r) := by
  induction h with
  | nil l => exact .refl _
  | cons h _ ih => exact h.perm.trans (ih.cons _)
def fps (l : List It) : List Nat := l.flatMap It.fp
theorem mem_fps {l : List It} {b : Nat} (h : b ∈ fps l) : ∃ i ∈ l, b ∈ i.fp := List.mem_flatMap.1 h
/-- A call that is given some items, and leaves others. -/
theorem st_callk {d : Nat} {f : FuncId} {args : List Value} {is lr : List It} {Φ : Value → List It → Prop} (he : Enters P n ss o f args) (hw : wantB ops ss o = some true) (hd : o.dst = some d) (hn : Nat.ble (d + 1) n = true) (H : St n S w0 ss l a w)
    (hp : Picks l is lr) (hk : Calls P f args.toArray w (Post (fps is) w Φ)) (K : ∀ v l' a' w', Φ v l' → St n S w0 ((d, v) :: ss) (l' ++ lr) a' w' → wpList P ops Q rest a' w') : wpList P ops Q (o :: rest) a w :=
  st_enter (lT := is) (he a w H.fr) hw hd hn ⟨H.fr, H.sep.perm hp.perm.symm⟩ (fun b hb => mem_fps hb) hk K
/-- What a call is given stands by itself. -/
theorem Sep.given {is lr : List It} (H : Sep S w0 w l) (hp : Picks l is lr) : Sep (fps is) w w is := by
  have h := (H.perm hp.perm.symm)
  refine ⟨Frm.refl _ _, fun i hi => h.all i (List.mem_append_left _ hi), fun i hi b hb => .inl (List.mem_flatMap.2 ⟨i, hi, hb⟩), (List.pairwise_append.1 h.dis).1⟩
theorem fps_new {is lr : List It} {T : List (BitVec 32)} {g : Nat} (H : Sep [] w0 w l) (hp : Picks l is lr) (hG : Glob g T w0) (hT : 0 < T.length) : g ∉ fps is := fun hm => by
  have h := (H.perm hp.perm.symm)
  obtain ⟨i, hi, hb⟩ := mem_fps hm
  have h1 := World.block_lt_of_cell? w0 _ (hG 0 hT)
  rcases h.own i (List.mem_append_left _ hi) g hb with h2 | h2
  · cases h2
  · have h1 : g < w0.heap.size := h1
    omega
end Go.Sx
