/- Part of a proof about given Go functions: contracts of functions, or plain laws. -/
import Derived.Test.YtaeahloenahelaaDoorS5
import Derived.Test.YtaeahloenahelaaDoorS4
import Derived.Scope
import Derived.Test.YtaeahloenahelaaDoorS3
import Derived.Test.YtaeahloenahelaaDoorS1
import Derived.Test.YtaeahloenahelaaDoorS2
/- Own words: lists of hashes. -/
set_option linter.unusedVariables false
set_option linter.unusedSimpArgs false
namespace Go.Sx
open Go.RowKit
variable {P : Program} {n : Nat} {S : List Nat} {w0 w : World} {ss : List (Nat × Value)} {l : List It} {o : Oper} {a : Act}
theorem lay_agg {z : Nat} {base vs : List Value} {v : Value} (hv : v.cells.toList = vs) (hz : vs.length = z) (hb : base.length = z) : lay (fun i => some (i * z, z)) base [(0, v)] = some vs := by
  have e : spl base 0 vs = vs := spl_all (by rw [hz, hb])
  simp only [lay, hv, hz, hb, Nat.zero_mul, Nat.zero_add, Nat.lt_irrefl, ne_eq, not_true_eq_false, or_self, if_false, e]
/-- The cells of a list of hashes. -/
def hc (p : List (List UInt8)) : List Value := (p.map fun h => h.map u8).flatten
def H32 (p : List (List UInt8)) : Prop := ∀ h ∈ p, h.length = 32
theorem H32.getD {p : List (List UInt8)} (h : H32 p) {i : Nat} (hi : i < p.length) : (p.getD i []).length = 32 := h _ (by rw [List.getD_eq_getElem?_getD, List.getElem?_eq_getElem hi]; exact List.getElem_mem _)
theorem H32.take {p : List (List UInt8)} (h : H32 p) (k : Nat) : H32 (p.take k) := fun x hx => h x (List.mem_of_mem_take hx)
theorem H32.append {p q : List (List UInt8)} (h : H32 p) (h' : H32 q) : H32 (p ++ q) := fun x hx => by rcases List.mem_append.1 hx with hx | hx; exact h x hx; exact h' x hx
theorem H32.one {h : List UInt8} (e : h.length = 32) : H32 [h] := fun x hx => by rw [List.mem_singleton.1 hx]; exact e
section
open Go.WideShapes
variable {H : Type} {enc : TypeId × Value → H} {W : World} {sp : Nat → Bool} {held : Bool} {t e u : TypeId} {cs : List Value}
/-- A list of hashes among the arguments. -/
theorem Tr.hashes (h : Tr enc P W sp held t cs) (ht : P.underlying t = some (.slice e)) (he : P.underlying e = some (.array 32 u)) (hu : P.underlying u = some (.int .u8)) (hn : P.cellsOf e = 32) (h1 : P.cellsOf u = 1) :
    ∃ A p c, cs = [.slice A p.length c] ∧ p.length ≤ c ∧ p.length ≤ 9223372036854775807 ∧ H32 p ∧ Rd W A (hc p) := by
  obtain ⟨a, m, c, hcs, hmc, hm, rows, hr, hR, hrow⟩ := h.sliceC ht (by rw [hn]; omega)
  obtain ⟨p, hp, h32⟩ := rows_map (f := fun x : List UInt8 => x.map Sx.u8) (p := fun x => x.length = 32) (rows := rows) (fun r hr => (hrow r hr).2.bytes he hu hn h1)
  subst hp
  have hl : p.length = m := by rw [← hr, List.length_map]
  subst hl
  exact ⟨a, p, c, hcs, hmc, hm, h32, hR⟩
end
end Go.Sx

/- Own words: cells of structs told by their shape: single cells, and arrays of bytes. -/
set_option linter.unusedVariables false
set_option linter.unusedSimpArgs false
namespace Go.Sx
open Go.RowKit
section shape
variable {a b v : Value} {R R' C cs ds vs B : List Value} {t p q : List UInt8} {n o off z k : Nat}
/-! ### Lengths, single cells -/
theorem len_n : ([] : List Value).length = 0 := rfl
theorem len_c (h : R.length = n) : (a :: R).length = n + 1 := by rw [List.length_cons, h]
theorem len_b (ht : t.length = k) (h : R.length = n) : (t.map u8 ++ R).length = k + n := by rw [List.length_append, List.length_map, ht, h]
theorem len_e (ht : t.length = k) : (t.map u8).length = k := by rw [List.length_map, ht]
theorem one_n : ([] : List Value).all (·.oneCell') = true := rfl
theorem one_c (ha : a.oneCell' = true) (h : R.all (·.oneCell') = true) : (a :: R).all (·.oneCell') = true := by rw [List.all_cons, ha, h]; rfl
theorem one_b (h : R.all (·.oneCell') = true) : (t.map u8 ++ R).all (·.oneCell') = true := by rw [List.all_append, h, one_u8]; rfl
/-! ### A part laid over cells -/
theorem spl_c (h : spl R o vs = R') : spl (a :: R) (o + 1) vs = a :: R' := by
  subst h
  unfold spl
  rw [show o + 1 + vs.length = (o + vs.length) + 1 by omega]
  rfl
theorem spl_b (ht : t.length = k) (ho : k + o = off) (h : spl R o vs = R') : spl (t.map u8 ++ R) off vs = t.map u8 ++ R' := by
  subst h ho
  unfold spl
  rw [List.take_append, List.take_of_length_le (by rw [List.length_map]; omega), List.drop_append, List.drop_eq_nil_of_le (by rw [List.length_map]; omega), List.length_map, ht]
  simp only [List.nil_append, List.append_assoc]
  rw [show k + o - k = o by omega, show k + o + vs.length - k = o + vs.length by omega]
theorem spl_0 : spl (a :: R) 0 [v] = v :: R := rfl
theorem spl_a (hB : cs.length = z) (hv : vs.length = z) : spl cs 0 vs = vs := spl_all (by rw [hB, hv])
theorem spl_m (hv : vs.length = z) (hd : cs.drop z = C) (ha : vs ++ C = ds) : spl cs 0 vs = ds := by
  unfold spl
  rw [List.take_zero, List.nil_append, Nat.zero_add, hv, hd, ha]
theorem dr_c (h : R.drop o = C) : (a :: R).drop (o + 1) = C := h
theorem dr_0 : cs.drop 0 = cs := rfl
theorem dr_b (ht : t.length = k) (ho : k + o = off) (h : R.drop o = C) : (t.map u8 ++ R).drop off = C := by
  subst h ho
  rw [List.drop_append, List.drop_eq_nil_of_le (by rw [List.length_map]; omega), List.length_map, ht, List.nil_append, Nat.add_sub_cancel_left]
theorem app_c (h : R ++ C = R') : (a :: R) ++ C = a :: R' := by rw [List.cons_append, h]
theorem app_e : t.map u8 ++ C = t.map u8 ++ C := rfl
/-! ### One cell written -/
theorem set_c (h : R.set o v = R') : (a :: R).set (o + 1) v = a :: R' := by rw [List.set_cons_succ, h]
theorem set_0 : (a :: R).set 0 v = v :: R := rfl
theorem set_b (ht : t.length = k) (ho : k + o = off) (h : R.set o v = R') : (t.map u8 ++ R).set off v = t.map u8 ++ R' := by
  subst h ho
  rw [List.set_append_right _ _ (by rw [List.length_map]; omega), List.length_map, ht, Nat.add_sub_cancel_left]
/-! ### One cell read -/
theorem ix_c (h : R[o]? = some v) : (a :: R)[o + 1]? = some v := by rw [List.getElem?_cons_succ, h]
theorem ix_0 : (a :: R)[0]? = some a := rfl
theorem ix_b (ht : t.length = k) (ho : k + o = off) (h : R[o]? = some v) : (t.map u8 ++ R)[off]? = some v := by
  subst ho
  rw [List.getElem?_append_right (by rw [List.length_map]; omega), List.length_map, ht, Nat.add_sub_cancel_left, h]
/-! ### Some cells read -/
theorem ld_c (h : (R.drop o).take z = ds) : ((a :: R).drop (o + 1)).take z = ds := h
theorem ld_h (ht : t.length = z) : ((t.map u8 ++ R).drop 0).take z = t.map u8 := by rw [List.drop_zero, List.take_left' (by rw [List.length_map, ht])]
theorem ld_a (h : cs.length = z) : (cs.drop 0).take z = cs := take_all h
theorem ld_s (h : (R.drop 0).take z = ds) : ((a :: R).drop 0).take (z + 1) = a :: ds := by rw [← h]; rfl
theorem agg_cells (l : List Value) : (Value.agg l.toArray).cells.toList = l := rfl
/-! ### A literal of a struct -/
theorem lay_n {place : Nat → Option (Nat × Nat)} : lay place cs [] = some cs := rfl
theorem lay_f {place : Nat → Option (Nat × Nat)} {i : Nat} {cv cs1 : List Value} {rest : List (Nat × Value)} (hp : place i = some (off, z)) (hv : v.cells.toList = cv) (hl : cv.length = z) (hn : cs.length = n) (hb : off + z ≤ n) (hs : spl cs off cv = cs1) (hr : lay place cs1 rest = some ds) : lay place cs ((i, v) :: rest) = some ds := by
  simp only [lay, hp, hv, hl, hn]
  rw [if_neg (by omega), hs, hr]
theorem lay_1 {place : Nat → Option (Nat × Nat)} {i : Nat} {cs1 : List Value} {rest : List (Nat × Value)} (hp : place i = some (off, 1)) (hn : cs.length = n) (hb : off + 1 ≤ n) (hs : spl cs off [v] = cs1) (hr : lay place cs1 rest = some ds) (hv : v.cells.toList = [v]) : lay place cs ((i, v) :: rest) = some ds :=
  lay_f hp hv rfl hn hb hs hr
end shape
section ops
variable {P : Program} {n : Nat} {S : List Nat} {w0 : World} {ss : List (Nat × Value)} {l : List It} {o : Oper}
variable {ops : Array Oper} {Q : Exit → Act → World → Prop} {rest : List Oper} {a : Act} {w : World}
theorem st_storeN {t E : TypeId} {x y : Operand} {b off z : Nat} {cs vs cs' : List Value} {v : Value} {l' : List It} (ho : o.op = .store t x y) (hz : sizeB P t = some z) (hx : evO ss x = some (.pointer (some ⟨b, off, none⟩))) (hy : evO ss y = some v) (hv : v.cells.toList = vs) (hu : Upd l (It.blk b E cs) (It.blk b E cs') l') (h1 : vs.all (·.oneCell') = true) (hl : vs.length = z)
    {m : Nat} (hm : cs.length = m) (he : spl cs off vs = cs') (hf : off + z ≤ m) (hw : wantB ops ss o = some true) (hd : o.dst = none) (H : St n S w0 ss l a w)
    (K : ∀ w', St n S w0 ss l' a w' → wpList P ops Q rest a w') : wpList P ops Q (o :: rest) a w := by
  subst he
  exact st_store ho hz hx hy hv h1 hl hu (by omega) hw hd H K
theorem st_store1N {t E : TypeId} {x y : Operand} {b off : Nat} {cs cs' : List Value} {v : Value} {l' : List It} (ho : o.op = .store t x y) (hz : sizeB P t = some 1) (hx : evO ss x = some (.pointer (some ⟨b, off, none⟩))) (hy : evO ss y = some v) (h1 : v.oneCell' = true) (hu : Upd l (It.blk b E cs) (It.blk b E cs') l')
    {m : Nat} (hm : cs.length = m) (he : cs.set off v = cs') (hf : off < m) (hw : wantB ops ss o = some true) (hd : o.dst = none) (H : St n S w0 ss l a w)
    (K : ∀ w', St n S w0 ss l' a w' → wpList P ops Q rest a w') : wpList P ops Q (o :: rest) a w := by
  subst he
  exact st_store1 ho hz hx hy h1 hu (by omega) hw hd H K
end ops
/-! ### Structs side by side -/
def PartR (P : Program) (t : TypeId) (cs : List Value) (off : Nat) (v : Value) : Prop := ∀ w, (Go.part t cs.toArray off).run P w = .ok v w
def EqR (P : Program) (d : Nat) (t : TypeId) (x y : Value) (r : Bool) : Prop := ∀ w, (Op.equalIn d t x y).run P w = .ok r w
def EqFs (P : Program) (d : Nat) (xs ys : List Value) (fs : List Field) (r : Bool) : Prop := ∀ w, (Op.eqFields d xs.toArray ys.toArray fs).run P w = .ok r w
section eqs
variable {P : Program} {t e : TypeId} {cs ds xs ys : List Value} {off z d : Nat} {v x y : Value} {r r' : Bool} {f : Field} {fs : List Field}
theorem pa_a (ht : aggB P t = some true) (hz : sizeB P t = some z) (hl : cs.length = d) (hb : off + z ≤ d) (hv : (cs.drop off).take z = ds) : PartR P t cs off (.agg ds.toArray) := by
  intro w
  subst hv hl
  simp [Go.part, run_isAgg' ht, run_sizeOf' hz, hb]
theorem pa_1 (ht : aggB P t = some false) (hv : cs[off]? = some v) : PartR P t cs off v := by
  intro w
  simp [Go.part, run_isAgg' ht, hv]
theorem eqr_int {k k' : IntKind} {a b : Int} (h : P.underlying t = some (.int k')) : EqR P (d + 1) t (.int k a) (.int k b) (decide (a = b)) := fun w => by
  rw [run_equalIn_int w d t k k' a b h]
  rfl
theorem eqr_bytes {p q : List UInt8} {m : Nat} (ht : P.underlying t = some (.array m e)) (he : P.underlying e = some (.int .u8)) (hz : sizeB P e = some 1) (hp : p.length = m) (hq : q.length = m) : EqR P (d + 2) t (.agg (p.map u8).toArray) (.agg (q.map u8).toArray) (decide (p = q)) := fun w => by
  have h := run_equalIn_bytes w d t e m ht he (fun w => run_sizeOf' hz) p q hp hq
  rw [← lbeq]
  exact h
theorem eqf_n : EqFs P d xs ys [] true := fun w => rfl
theorem eqf_c (hn : (f.name == "_") = false) (hx : PartR P f.type xs f.offset x) (hy : PartR P f.type ys f.offset y) (he : EqR P d f.type x y r) (hr : EqFs P d xs ys fs r') : EqFs P d xs ys (f :: fs) (r && r') := fun w => by
  have h1 : f.name ≠ "_" := by simpa using hn
  simp only [Op.eqFields, h1, ne_eq, not_false_eq_true, if_true, Sem.run_bind, hx w, hy w, he w, Result.andThen_ok]
  cases r
  · simp
  · simpa using hr w
theorem eqr_struct {fs : Array Field} (ht : P.underlying t = some (.struct fs)) (hp : P.stoodInHeld t = false) (h : EqFs P d xs ys fs.toList r) : EqR P (d + 1) t (.agg xs.toArray) (.agg ys.toArray) r := fun w => by
  have e : P.fieldsOf t = fs := by unfold Program.fieldsOf; rw [ht]
  rw [run_equalIn_struct w d t _ _ (by rw [e, ht]) hp, e]
  exact h w
variable {n : Nat} {S : List Nat} {w0 : World} {ss : List (Nat × Value)} {l : List It} {o : Oper}
theorem y_teql {t' : TypeId} {a b : Operand} (ho : o.op = .binOp .eql t a b t') (hm : P.eqGuardType P.depth t = false) (hx : evO ss a = some (.agg xs.toArray)) (hy : evO ss b = some (.agg ys.toArray)) (h : EqR P 10000 t (.agg xs.toArray) (.agg ys.toArray) r) : Yld P n S w0 ss l o (.bool r) := by
  intro a' w F _
  have hg := fun op (x y : Operand) xs ys => run_eqGuard_agg (P := P) (w := w) op t x y xs ys hm
  simp [execOp, ho, F.ev hx, F.ev hy, hg, run_eql_struct, h w]
theorem y_tneq {t' : TypeId} {a b : Operand} (ho : o.op = .binOp .neq t a b t') (hm : P.eqGuardType P.depth t = false) (hx : evO ss a = some (.agg xs.toArray)) (hy : evO ss b = some (.agg ys.toArray)) (h : EqR P 10000 t (.agg xs.toArray) (.agg ys.toArray) r) : Yld P n S w0 ss l o (.bool (!r)) := by
  intro a' w F _
  have hg := fun op (x y : Operand) xs ys => run_eqGuard_agg (P := P) (w := w) op t x y xs ys hm
  simp [execOp, ho, F.ev hx, F.ev hy, hg, run_neq_struct, h w]
end eqs
section calls
variable {P : Program} {n : Nat} {S : List Nat} {w0 : World} {ss : List (Nat × Value)} {l : List It} {o : Oper}
variable {ops : Array Oper} {Q : Exit → Act → World → Prop} {rest : List Oper} {a : Act} {w : World}
theorem Row.cap {e : TypeId} {size : Nat} {A : Option Addr} {n c : Nat} {xs : List Value} {w : World} (h : Row e size (.slice A n c) n xs w) : n ≤ c := by
  rcases h.2 with ⟨h1, h2⟩ | ⟨g, cap, cur, fz, hv, hg, h1, h2⟩
  · omega
  · injection hv with e1 e2 e3
    omega
theorem row_cap {e size : Nat} {A : Option Addr} {n c : Nat} {xs : List Value} (hs : Sep S w0 w l) (hm : It.row e size (.slice A n c) n xs ∈ l) : n ≤ c := Row.cap (hs.all _ hm)
end calls
section scope
variable {Q : Exit → Act → World → Prop} {a : Act} {w : World}
variable {P : Program} {n : Nat} {S : List Nat} {w0 : World} {ss : List (Nat × Value)} {l : List It} {o : Oper}
theorem y_bstrN {s t e : TypeId} {x : Operand} {A : Option Addr} {m c : Nat} {p : List UInt8} (ho : o.op = .convert s t x) (hs : P.underlying s = some (.slice e)) (he : P.underlying e = some (.int .u8)) (ht : P.underlying t = some .string) (hx : evO ss x = some (.slice A m c)) (hr : ∀ w, Sep S w0 w l → Rd w A (p.map u8)) (hm : m = p.length) : Yld P n S w0 ss l o (str p) :=
  y_bstr ho hs he ht hx hm hr
end scope
end Go.Sx

/- Bids, receipts, batches and items as cells. -/
namespace Go.Note
open Go.Sx
abbrev I64 (n : Int) : Prop := -9223372036854775808 ≤ n ∧ n ≤ 9223372036854775807
def Bid.cells (b : Bid) : List Value := i64 b.round :: i64 b.who :: i64 b.amount :: i64 b.salt :: b.tag.map u8
structure Bid.Wf (b : Bid) : Prop where
  round : I64 b.round
  who : I64 b.who
  amount : I64 b.amount
  salt : I64 b.salt
  tag : b.tag.length = 32
end Go.Note
namespace Go.Note
open Go.Sx
def Receipt.cells (r : Receipt) : List Value := i64 r.index :: i64 r.kind :: i64 r.time :: str r.body :: (r.prev.map u8 ++ r.hash.map u8)
structure Receipt.Wf (r : Receipt) : Prop where
  index : I64 r.index
  kind : I64 r.kind
  time : I64 r.time
  body : r.body.length ≤ 140737488351232
  prev : r.prev.length = 32
  hash : r.hash.length = 32
def Item.cells (i : Item) : List Value := [i64 i.kind, i64 i.who, i64 i.n, str i.text]
structure Item.Wf (i : Item) : Prop where
  kind : I64 i.kind
  who : I64 i.who
  n : I64 i.n
  text : i.text.length ≤ 140737488351232
def Part.cells (p : Part) : List Value := [.bool p.delayed, str p.text]
def pc (ps : List Part) : List Value := (ps.map Part.cells).flatten
end Go.Note
namespace Go.Note
open Go.Sx
end Go.Note
namespace Go.Note
open Go.Sx
def Batch.cells (b : Batch) (A : Option Addr) (c : Nat) : List Value := [i64 b.seq, i64 b.first, i64 b.before, .slice A b.parts.length c]
structure Batch.Wf (b : Batch) : Prop where
  seq : I64 b.seq
  first : I64 b.first
  before : I64 b.before
  len : b.parts.length ≤ 9223372036854775807
  texts : ∀ p ∈ b.parts, p.text.length ≤ 140737488351232
end Go.Note
namespace Go.Note
open Go.Sx
end Go.Note
namespace Go.Note
open Go.Sx
end Go.Note

/- One of each, as cells. -/
namespace Go.Note
open Go.Sx
structure All where
  bid : Bid
  receipt : Receipt
  batch : Batch
  A : Option Addr
  c : Nat
  item : Item
def All.cells (x : All) : List Value :=
  i64 x.bid.round :: i64 x.bid.who :: i64 x.bid.amount :: i64 x.bid.salt :: (x.bid.tag.map u8 ++ (i64 x.receipt.index :: i64 x.receipt.kind :: i64 x.receipt.time :: str x.receipt.body :: (x.receipt.prev.map u8 ++ (x.receipt.hash.map u8 ++
    [i64 x.batch.seq, i64 x.batch.first, i64 x.batch.before, .slice x.A x.batch.parts.length x.c, i64 x.item.kind, i64 x.item.who, i64 x.item.n, str x.item.text]))))
structure All.Wf (W : World) (x : All) : Prop where
  bid : Bid.Wf x.bid
  receipt : Receipt.Wf x.receipt
  batch : Batch.Wf x.batch
  rd : Rd W x.A (pc x.batch.parts)
  item : Item.Wf x.item
end Go.Note
namespace Go.Note
open Go.Sx
end Go.Note

/- Blocks and the inbox's entries as cells. -/
namespace Go.Inbox
open Go.Sx
open Go.Note (Z I64)
theorem flat_lenM {α : Type} {f : α → List Value} {z : Nat} : ∀ (l : List α), (∀ x ∈ l, (f x).length = z) → ((l.map f).flatten).length = l.length * z
  | [], _ => by simp
  | x :: l, h => by
    have h0 := h x (by simp)
    have ih := flat_lenM l (fun y hy => h y (by simp [hy]))
    simp only [List.map_cons, List.flatten_cons, List.length_append, List.length_cons, ih, h0]
    rw [Nat.add_mul]
    omega
theorem flat_takeM {α : Type} {f : α → List Value} {z : Nat} (d : α) : ∀ (l : List α) (i : Nat), (∀ x ∈ l, (f x).length = z) → i < l.length → (((l.map f).flatten).drop (i * z)).take z = f (l.getD i d)
  | [], i, _, h => absurd h (by simp)
  | x :: l, 0, h, _ => by
    have h0 := h x (by simp)
    simp only [Nat.zero_mul, List.drop_zero, List.map_cons, List.flatten_cons]
    rw [← h0, List.take_left]
    rfl
  | x :: l, i + 1, h, hi => by
    have h0 := h x (by simp)
    have ih := flat_takeM d l i (fun y hy => h y (by simp [hy])) (by simpa using hi)
    simp only [List.map_cons, List.flatten_cons]
    rw [show (i + 1) * z = (f x).length + i * z by rw [h0, Nat.add_mul]; omega, Oct.drop_at, ih]
    rfl
theorem flat_getM {α : Type} {f : α → List Value} {z : Nat} (d : α) {l : List α} {i j : Nat} (h : ∀ x ∈ l, (f x).length = z) (hi : i < l.length) (hj : j < z) : ((l.map f).flatten)[i * z + j]? = (f (l.getD i d))[j]? := by
  rw [← flat_takeM d l i h hi, List.getElem?_take, if_pos hj, List.getElem?_drop]
def ic (l : List Note.Item) : List Value := (l.map Note.Item.cells).flatten
/-- A block, and where its items lie. -/
structure BA where
  b : Block
  A : Option Addr
  c : Nat
def BA.zero : BA := ⟨⟨0, 0, Z, []⟩, none, 0⟩
def BA.cells (x : BA) : List Value := i64 x.b.number :: i64 x.b.salt :: (x.b.parent.map u8 ++ [.slice x.A x.b.items.length x.c])
structure BA.Wf (W : World) (x : BA) : Prop where
  number : I64 x.b.number
  salt : I64 x.b.salt
  parent : x.b.parent.length = 32
  len : x.b.items.length ≤ 9223372036854775807
  items : ∀ i ∈ x.b.items, Note.Item.Wf i
  rd : Rd W x.A (ic x.b.items)
def Entry.cells (e : Entry) : List Value := i64 e.who :: str e.text :: i64 e.block :: e.acc.map u8
structure Entry.Wf (e : Entry) : Prop where
  who : I64 e.who
  text : e.text.length ≤ 140737488351232
  block : I64 e.block
  acc : e.acc.length = 32
end Go.Inbox

/- The inbox's messages, block by block and item by item. -/
namespace Go.Inbox
open Go.Note (Z)
theorem memD {α : Type} {l : List α} {k : Nat} (d : α) (h : k < l.length) : l.getD k d ∈ l := by
  rw [Oct.getD_eq d h]
  exact List.getElem_mem h
/-! ### Calls -/
end Go.Inbox

/- What the inbox must give at any rate, as cells. -/
namespace Go.Inbox
open Go.Sx
open Go.Note (Z I64)
/-- What a call names. -/
structure Q where
  n : Int
  t : Int
  wt : Int
def Q.cells (q : Q) : List Value := [Sx.i64 q.n, Sx.i64 q.t, Sx.i64 q.wt]
end Go.Inbox

/- Own words: the first blocks of a list, the first entries, worlds that grow. -/
namespace Go.Inbox
open Go.Sx
open Go.Note (Z I64)
theorem BA.Wf.frm {S : List Nat} {w0 w : World} {x : BA} (h : BA.Wf w0 x) (k : Frm S w0 w) (hS : ∀ ad, x.A = some ad → ad.block ∉ S) : BA.Wf w x := { h with rd := h.rd.frm k hS }
theorem flat_pre {α : Type} {f : α → List Value} {z : Nat} : ∀ (l : List α) (k : Nat), (∀ x ∈ l, (f x).length = z) → ((l.take k).map f).flatten = ((l.map f).flatten).take (k * z)
  | [], k, _ => by simp
  | x :: l, 0, _ => by simp
  | x :: l, k + 1, h => by
    have h1 := flat_pre l k (fun y hy => h y (List.mem_cons_of_mem _ hy))
    have h2 := h x List.mem_cons_self
    simp only [List.take_succ_cons, List.map_cons, List.flatten_cons, h1]
    rw [List.take_append, h2, List.take_of_length_le (l := f x) (by rw [h2, Nat.succ_mul]; omega), show (k + 1) * z - z = k * z by rw [Nat.succ_mul]; omega]
end Go.Inbox

/- Own words: functions as values; calls that are given several items. -/
set_option linter.unusedVariables false
set_option linter.unusedSimpArgs false
namespace Go.Sx
open Go.RowKit
variable {P : Program} {n : Nat} {S : List Nat} {w0 w : World} {ss : List (Nat × Value)} {l : List It} {o : Oper} {a : Act}
variable {ops : Array Oper} {Q : Exit → Act → World → Prop} {rest : List Oper}
theorem y_max2 {x y : Operand} {t u : TypeId} {k : IntKind} {p q : Int} (ho : o.op = .call { callee := .builtin .max, args := #[x, y], argTypes := #[t, u] }) (hx : evO ss x = some (.int k p)) (hy : evO ss y = some (.int k q)) : Yld P n S w0 ss l o (.int k (max p q)) := by
  intro a w F _
  have e : (if p < q then q else p) = max p q := by split <;> omega
  simp [execOp, ho, F.ev hx, F.ev hy, resolve, invoke, builtin, Builtin.max_, Builtin.max2, e]
theorem lay_agg2 {z : Nat} {base vs us : List Value} {v u : Value} (hv : v.cells.toList = vs) (hu : u.cells.toList = us) (hz : vs.length = z) (hy : us.length = z) (hb : base.length = 2 * z) : lay (fun i => some (i * z, z)) base [(0, v), (1, u)] = some (vs ++ us) := by
  have e1 : spl base 0 vs = vs ++ base.drop z := by unfold spl; rw [List.take_zero, List.nil_append, Nat.zero_add, hz]
  have e2 : spl (vs ++ base.drop z) z us = vs ++ us := by
    unfold spl
    rw [List.take_left' hz, hy, List.drop_eq_nil_of_le (by rw [List.length_append, List.length_drop, hz, hb]; omega), List.append_nil]
  have h1 : ¬ (vs.length ≠ z ∨ base.length < 0 + z) := by omega
  have h2 : ¬ (us.length ≠ z ∨ (vs ++ base.drop z).length < z + z) := by rw [List.length_append, List.length_drop]; omega
  unfold lay
  simp only [hv, Nat.zero_mul, if_neg h1, e1]
  unfold lay
  simp only [hu, Nat.one_mul, if_neg h2, e2]
  rfl
/-- A call that runs a function of the program on arguments. -/
def Enters (P : Program) (n : Nat) (ss : List (Nat × Value)) (o : Oper) (f : FuncId) (args : List Value) : Prop := ∀ a w, Fr n ss a → (execOp a.eval o).run P w = .ok (.enter f args.toArray) w
theorem enters_call {f : FuncId} {xs : List Operand} {ts : Array TypeId} {args : List Value} (ho : o.op = .call { callee := .value (.func f), args := xs.toArray, argTypes := ts }) (hc : callB P f = true) (ha : evs ss xs = some args) : Enters P n ss o f args :=
  fun _ _ F => run_call ho hc F ha
theorem enters_callv {g : Operand} {f : FuncId} {fs cs : List Value} {xs : List Operand} {ts : Array TypeId} {args all : List Value} (ho : o.op = .call { callee := .value g, args := xs.toArray, argTypes := ts }) (hg : evO ss g = some (.func (.func f) fs.toArray cs.toArray)) (hc : callB P f = true) (ha : evs ss xs = some args) (hall : fs ++ args ++ cs = all) : Enters P n ss o f all :=
  fun _ _ F => run_callv ho hg hc F ha (by simpa using hall)
/-- One item of several. -/
inductive Pick : List It → It → List It → Prop
  | head (i : It) (l : List It) : Pick (i :: l) i l
  | tail (x : It) {i : It} {l r : List It} : Pick l i r → Pick (x :: l) i (x :: r)
theorem Pick.perm {l r : List It} {i : It} (h : Pick l i r) : l.Perm (i :: r) := by
  induction h with
  | head i l => exact .refl _
  | tail x h ih => exact (ih.cons x).trans (.swap _ _ _)
theorem Ph {i : It} {l : List It} : Pick (i :: l) i l := .head i l
theorem Pt {x i : It} {l r : List It} (h : Pick l i r) : Pick (x :: l) i (x :: r) := .tail x h
inductive Picks : List It → List It → List It → Prop
  | nil (l : List It) : Picks l [] l
  | cons {l m r is : List It} {i : It} : Pick l i m → Picks m is r → Picks l (i :: is) r
theorem Picks.perm {l r is : List It} (h : Picks l is r) : l.Perm (is ++ r) := by
  induction h with
  | nil l => exact .refl _
  | cons h _ ih => exact h.perm.trans (ih.cons _)
def fps (l : List It) : List Nat := l.flatMap It.fp
theorem mem_fps {l : List It} {b : Nat} (h : b ∈ fps l) : ∃ i ∈ l, b ∈ i.fp := List.mem_flatMap.1 h
/-- A call that is given some items, and leaves others. -/
theorem st_callk {d : Nat} {f : FuncId} {args : List Value} {is lr : List It} {Φ : Value → List It → Prop} (he : Enters P n ss o f args) (hw : wantB ops ss o = some true) (hd : o.dst = some d) (hn : Nat.ble (d + 1) n = true) (H : St n S w0 ss l a w)
    (hp : Picks l is lr) (hk : Calls P f args.toArray w (Post (fps is) w Φ)) (K : ∀ v l' a' w', Φ v l' → St n S w0 ((d, v) :: ss) (l' ++ lr) a' w' → wpList P ops Q rest a' w') : wpList P ops Q (o :: rest) a w :=
  st_enter (lT := is) (he a w H.fr) hw hd hn ⟨H.fr, H.sep.perm hp.perm.symm⟩ (fun b hb => mem_fps hb) hk K
/-- What a call is given stands by itself. -/
theorem Sep.given {is lr : List It} (H : Sep S w0 w l) (hp : Picks l is lr) : Sep (fps is) w w is := by
  have h := (H.perm hp.perm.symm)
  refine ⟨Frm.refl _ _, fun i hi => h.all i (List.mem_append_left _ hi), fun i hi b hb => .inl (List.mem_flatMap.2 ⟨i, hi, hb⟩), (List.pairwise_append.1 h.dis).1⟩
theorem fps_new {is lr : List It} {T : List (BitVec 32)} {g : Nat} (H : Sep [] w0 w l) (hp : Picks l is lr) (hG : Glob g T w0) (hT : 0 < T.length) : g ∉ fps is := fun hm => by
  have h := (H.perm hp.perm.symm)
  obtain ⟨i, hi, hb⟩ := mem_fps hm
  have h1 := World.block_lt_of_cell? w0 _ (hG 0 hT)
  rcases h.own i (List.mem_append_left _ hi) g hb with h2 | h2
  · cases h2
  · have h1 : g < w0.heap.size := h1
    omega
end Go.Sx

/- Own words: maps with integer keys that a call owns. -/
set_option linter.unusedVariables false
set_option linter.unusedSimpArgs false
namespace Go.Sx
open Go.RowKit
/-- What a list of entries holds at a key. -/
def mf : List MapEntry → Int → Option Value
  | [], _ => none
  | e :: es, k => match e.key with
    | .int .i64 a => if a = k then some e.val else mf es k
    | _ => mf es k
structure MapOk (es : List MapEntry) (clock : Nat) (f : Int → Option Value) : Prop where
  keys : ∀ e ∈ es, ∃ a, e.key = .int .i64 a
  apart : es.Pairwise fun x y => x.key ≠ y.key
  at_ : ∀ k, mf es k = f k
  old : ∀ e ∈ es, e.born < clock
  born : es.Pairwise fun x y => x.born ≠ y.born
theorem mf_none {es : List MapEntry} {k : Int} (h : mf es k = none) : ∀ e ∈ es, e.key ≠ .int .i64 k := by
  induction es with
  | nil => intro e he; cases he
  | cons x es ih =>
    intro e he hk
    simp only [mf] at h
    rcases List.mem_cons.1 he with rfl | he
    · rw [hk] at h; simp at h
    · refine ih ?_ e he hk
      split at h
      · split at h
        · simp at h
        · exact h
      · exact h
theorem findNow_none {es : List MapEntry} {k : Int} (hk : ∀ e ∈ es, ∃ a, e.key = .int .i64 a) (h : mf es k = none) : ∀ i, Instr.findNow (.int .i64) (.int .i64 k) es i = some none := by
  induction es with
  | nil => intro i; rfl
  | cons x es ih =>
    intro i
    obtain ⟨a, ha⟩ := hk x List.mem_cons_self
    have hn := mf_none h x List.mem_cons_self
    have hak : ¬ k = a := fun e => hn (by rw [ha, e])
    have h' : mf es k = none := by
      simp only [mf, ha] at h
      rw [if_neg (fun e => hak e.symm)] at h
      exact h
    have hb : (k == a) = false := beq_eq_false_iff_ne.2 hak
    simp only [Instr.findNow, ha, Instr.sameNow, if_true, hb]
    exact ih (fun e he => hk e (List.mem_cons_of_mem _ he)) h' (i + 1)
theorem findNow_some {es : List MapEntry} {k : Int} {v : Value} (hk : ∀ e ∈ es, ∃ a, e.key = .int .i64 a) (h : mf es k = some v) : ∃ j e, es[j]? = some e ∧ e.key = .int .i64 k ∧ e.val = v ∧ ∀ i, Instr.findNow (.int .i64) (.int .i64 k) es i = some (some (i + j, v)) := by
  induction es with
  | nil => simp [mf] at h
  | cons x es ih =>
    obtain ⟨a, ha⟩ := hk x List.mem_cons_self
    by_cases hak : a = k
    · subst hak
      simp only [mf, ha, if_true] at h
      refine ⟨0, x, rfl, ha, by simpa using h, fun i => ?_⟩
      simp only [Instr.findNow, ha, Instr.sameNow]
      simpa using h
    · have h' : mf es k = some v := by
        simp only [mf, ha] at h
        rw [if_neg hak] at h
        exact h
      obtain ⟨j, e, h1, h2, h3, h4⟩ := ih (fun e he => hk e (List.mem_cons_of_mem _ he)) h'
      refine ⟨j + 1, e, by simpa using h1, h2, h3, fun i => ?_⟩
      have hak' : ¬ k = a := fun e => hak e.symm
      have hb : (k == a) = false := beq_eq_false_iff_ne.2 hak'
      simp only [Instr.findNow, ha, Instr.sameNow, if_true, hb]
      rw [h4 (i + 1), show i + 1 + j = i + (j + 1) by omega]
theorem mf_append (es : List MapEntry) (x : MapEntry) (k a : Int) (hk : ∀ e ∈ es, ∃ a, e.key = .int .i64 a) (hx : x.key = .int .i64 a) (h : mf es a = none) : mf (es ++ [x]) k = if k = a then some x.val else mf es k := by
  induction es with
  | nil =>
    simp only [List.nil_append, mf, hx]
    by_cases hak : a = k
    · subst hak; simp
    · rw [if_neg hak, if_neg (fun e => hak e.symm)]
  | cons y es ih =>
    obtain ⟨b, hb⟩ := hk y List.mem_cons_self
    simp only [List.cons_append, mf, hb] at h ⊢
    split at h
    · simp at h
    · rename_i hba
      have ih' := ih (fun e he => hk e (List.mem_cons_of_mem _ he)) h
      by_cases hbk : b = k
      · subst hbk
        rw [if_pos rfl, if_pos rfl, if_neg hba]
      · rw [if_neg hbk, if_neg hbk]
        exact ih'
theorem mf_modify {es : List MapEntry} {j : Nat} {e : MapEntry} {k : Int} {g : MapEntry → MapEntry} {u : Value} (hk : ∀ e ∈ es, ∃ a, e.key = .int .i64 a) (hp : es.Pairwise fun x y => x.key ≠ y.key) (hj : es[j]? = some e) (he : e.key = .int .i64 k) (hg : (g e).key = .int .i64 k ∧ (g e).val = u) (a : Int) :
    mf (es.modify j g) a = if a = k then some u else mf es a := by
  induction es generalizing j with
  | nil => simp at hj
  | cons x es ih =>
    obtain ⟨b, hb⟩ := hk x List.mem_cons_self
    cases j with
    | zero =>
      obtain rfl : x = e := by simpa using hj
      have hbk : b = k := by rw [hb] at he; injection he
      subst hbk
      simp only [List.modify_zero_cons, mf, hg.1, hg.2, hb]
      by_cases hak : b = a
      · subst hak; simp
      · rw [if_neg hak, if_neg hak, if_neg (fun e => hak e.symm)]
    | succ j =>
      have hj' : es[j]? = some e := by simpa using hj
      have hm : e ∈ es := List.mem_of_getElem? hj'
      have hne := (List.pairwise_cons.1 hp).1 e hm
      have hbk : ¬ b = k := fun h => hne (by rw [hb, he, h])
      simp only [List.modify_succ_cons, mf, hb]
      by_cases hak : b = a
      · subst hak
        rw [if_pos rfl, if_pos rfl, if_neg hbk]
      · rw [if_neg hak, if_neg hak]
        exact ih (fun e he => hk e (List.mem_cons_of_mem _ he)) (List.pairwise_cons.1 hp).2 hj'
/-- A map with one key set. -/
def mset (f : Int → Option Value) (k : Int) (v : Value) : Int → Option Value := fun a => if a = k then some v else f a
theorem pairwise_modify {r : MapEntry → MapEntry → Prop} {g : MapEntry → MapEntry} : ∀ {es : List MapEntry} {j : Nat} {e : MapEntry}, es[j]? = some e → es.Pairwise r → (∀ x ∈ es, r x e → r x (g e)) → (∀ x ∈ es, r e x → r (g e) x) → (es.modify j g).Pairwise r
  | [], j, e, h, _, _, _ => by simp at h
  | x :: es, 0, e, h, hp, _, h2 => by
    obtain rfl : x = e := by simpa using h
    rw [List.modify_zero_cons]
    exact List.pairwise_cons.2 ⟨fun y hy => h2 y (List.mem_cons_of_mem _ hy) ((List.pairwise_cons.1 hp).1 y hy), (List.pairwise_cons.1 hp).2⟩
  | x :: es, j + 1, e, h, hp, h1, h2 => by
    have h' : es[j]? = some e := by simpa using h
    rw [List.modify_succ_cons]
    refine List.pairwise_cons.2 ⟨fun y hy => ?_, pairwise_modify h' (List.pairwise_cons.1 hp).2 (fun x hx => h1 x (List.mem_cons_of_mem _ hx)) (fun x hx => h2 x (List.mem_cons_of_mem _ hx))⟩
    rcases List.mem_iff_getElem?.1 hy with ⟨i, hi⟩
    rw [List.getElem?_modify] at hi
    by_cases hij : j = i
    · subst hij
      rw [h'] at hi
      simp only [if_true, Option.map_eq_map, Option.map_some, Option.some.injEq] at hi
      rw [← hi]
      exact h1 x List.mem_cons_self ((List.pairwise_cons.1 hp).1 e (List.mem_of_getElem? h'))
    · simp only [if_neg hij] at hi
      cases hi' : es[i]? with
      | none => rw [hi'] at hi; simp at hi
      | some z =>
        rw [hi'] at hi
        simp only [Option.map_eq_map, Option.map_some, Option.some.injEq] at hi
        rw [← hi]
        exact (List.pairwise_cons.1 hp).1 z (List.mem_of_getElem? hi')
theorem mem_modify {g : MapEntry → MapEntry} {es : List MapEntry} {j : Nat} {x : MapEntry} (h : x ∈ es.modify j g) : x ∈ es ∨ ∃ e, es[j]? = some e ∧ x = g e := by
  rcases List.mem_iff_getElem?.1 h with ⟨i, hi⟩
  rw [List.getElem?_modify] at hi
  cases hi' : es[i]? with
  | none => rw [hi'] at hi; simp at hi
  | some z =>
    rw [hi'] at hi
    by_cases hij : j = i
    · subst hij
      exact .inr ⟨z, hi', by simpa using hi.symm⟩
    · simp only [if_neg hij] at hi
      refine .inl (List.mem_of_getElem? (i := i) ?_)
      rw [hi']
      simpa using hi
theorem MapOk.mod {es : List MapEntry} {clock : Nat} {f : Int → Option Value} (h : MapOk es clock f) {j : Nat} {e : MapEntry} {k : Int} {u : Value} {g : MapEntry → MapEntry} (hj : es[j]? = some e) (he : e.key = .int .i64 k) (hg : (g e).key = .int .i64 k) (hu : (g e).val = u) (hb : (g e).born = e.born) : MapOk (es.modify j g) clock (mset f k u) where
  keys := fun x hx => by
    rcases mem_modify hx with hx | ⟨e', h1, rfl⟩
    · exact h.keys x hx
    · obtain rfl : e = e' := by rw [hj] at h1; exact Option.some.inj h1
      exact ⟨k, hg⟩
  apart := pairwise_modify hj h.apart (fun x _ hx => by rw [hg, ← he]; exact hx) (fun x _ hx => by rw [hg, ← he]; exact hx)
  at_ := fun a => by rw [mf_modify h.keys h.apart hj he ⟨hg, hu⟩, h.at_]; rfl
  old := fun x hx => by
    rcases mem_modify hx with hx | ⟨e', h1, rfl⟩
    · exact h.old x hx
    · obtain rfl : e = e' := by rw [hj] at h1; exact Option.some.inj h1
      rw [hb]
      exact h.old e (List.mem_of_getElem? hj)
  born := pairwise_modify hj h.born (fun x _ hx => by rw [hb]; exact hx) (fun x _ hx => by rw [hb]; exact hx)
theorem MapOk.push {es : List MapEntry} {clock : Nat} {f : Int → Option Value} (h : MapOk es clock f) {k : Int} {u : Value} (hn : f k = none) : MapOk (es ++ [⟨.int .i64 k, u, clock⟩]) (clock + 1) (mset f k u) where
  keys := fun x hx => by
    rcases List.mem_append.1 hx with hx | hx
    · exact h.keys x hx
    · rw [List.mem_singleton.1 hx]; exact ⟨k, rfl⟩
  apart := by
    refine List.pairwise_append.2 ⟨h.apart, List.pairwise_singleton _ _, fun x hx y hy => ?_⟩
    rw [List.mem_singleton.1 hy]
    exact mf_none (by rw [h.at_, hn]) x hx
  at_ := fun a => by rw [mf_append _ _ _ k h.keys rfl (by rw [h.at_, hn]), h.at_]; rfl
  old := fun x hx => by
    rcases List.mem_append.1 hx with hx | hx
    · have := h.old x hx; omega
    · rw [List.mem_singleton.1 hx]; exact Nat.lt_succ_self _
  born := by
    refine List.pairwise_append.2 ⟨h.born, List.pairwise_singleton _ _, fun x hx y hy => ?_⟩
    rw [List.mem_singleton.1 hy]
    have := h.old x hx
    show x.born ≠ clock
    omega
theorem MapOk.empty : MapOk [] 0 (fun _ => none) := ⟨by simp, List.Pairwise.nil, fun _ => rfl, by simp, List.Pairwise.nil⟩
/-! ### Items -/
/-- Block g is a map of f. -/
def It.mp (g : Nat) (f : Int → Option Value) : It where
  fp := [g]
  P := fun w => ∃ es clock, w.heap[g]? = some (.map es clock) ∧ MapOk es.toList clock f
  st := fun w w' h hp => by
    obtain ⟨es, c, h1, h2⟩ := hp
    exact ⟨es, c, (h g (by simp)).trans h1, h2⟩
  lt := fun w hp b hb => by
    obtain ⟨es, c, h1, h2⟩ := hp
    have : b = g := by simpa using hb
    subst this
    exact (Array.getElem?_eq_some_iff.1 h1).1
def putObj (w : World) (g : Nat) (o : Obj) : World := { w with heap := w.heap.setIfInBounds g o }
theorem putObj_frm {w : World} {g : Nat} (o : Obj) : Frm [g] w (putObj w g o) :=
  ⟨rfl, rfl, rfl, by simp [putObj], fun k hk hn => by
    have h : ¬ g = k := by
      intro e
      exact hn (by simp [e])
    simp only [putObj, Array.getElem?_setIfInBounds, h, if_false]⟩
theorem putObj_at {w : World} {g : Nat} {o o' : Obj} (h : w.heap[g]? = some o') : (putObj w g o).heap[g]? = some o := by
  have h1 := (Array.getElem?_eq_some_iff.1 h).1
  simp [putObj, Array.getElem?_setIfInBounds, h1]
theorem run_getMap {P : Program} {w : World} {g c : Nat} {es : Array MapEntry} (h : w.heap[g]? = some (.map es c)) : (getObj g).run P w = .ok (.map es c) w := by simp [getObj, Sem.run, h]
theorem run_setMap {P : Program} {w : World} {g c : Nat} {es : Array MapEntry} (h : w.heap[g]? = some (.map es c)) (o : Obj) : (setObj g o).run P w = .ok () (putObj w g o) := by simp [setObj, Sem.run, h, putObj]
theorem run_keyInt {P : Program} {w : World} {kt : TypeId} (hk : P.underlying kt = some (.int .i64)) (b : Bool) (k : Int) : (Instr.checkKey b 10000 kt (.int .i64 k)).run P w = .ok () w := by
  have h : ∀ m : Nat, (Instr.checkKey b (m + 1) kt (.int .i64 k)).run P w = .ok () w := fun m => by
    unfold Instr.checkKey
    simp [Sem.run_bind, run_underlying hk, Result.andThen]
  exact h 9999
theorem run_findNone {P : Program} {w : World} {kt : TypeId} (hk : P.underlying kt = some (.int .i64)) {es : List MapEntry} {c : Nat} {f : Int → Option Value} (h : MapOk es c f) {k : Int} (hf : f k = none) : (Instr.findKey kt (.int .i64 k) es).run P w = .ok none w := by
  simp [Instr.findKey, run_underlying hk, findNow_none h.keys (by rw [h.at_, hf] : mf es k = none)]
theorem run_findSome {P : Program} {w : World} {kt : TypeId} (hk : P.underlying kt = some (.int .i64)) {es : List MapEntry} {c : Nat} {f : Int → Option Value} (h : MapOk es c f) {k : Int} {v : Value} (hf : f k = some v) :
    ∃ j e, es[j]? = some e ∧ e.key = .int .i64 k ∧ e.val = v ∧ (Instr.findKey kt (.int .i64 k) es).run P w = .ok (some (j, v)) w := by
  obtain ⟨j, e, h1, h2, h3, h4⟩ := findNow_some h.keys (by rw [h.at_, hf] : mf es k = some v)
  refine ⟨j, e, h1, h2, h3, ?_⟩
  have h5 := h4 0
  rw [Nat.zero_add] at h5
  simp [Instr.findKey, run_underlying hk, h5]
theorem run_keyStays {P : Program} {w : World} (k : Int) : (Instr.keyThatStays (.int .i64 k) (.int .i64 k)).run P w = .ok (.int .i64 k) w := by
  have h : ∀ m : Nat, Instr.sameBits (m + 1) (.int .i64 k) (.int .i64 k) = true := fun m => by simp [Instr.sameBits]
  unfold Instr.keyThatStays
  rw [if_pos (h 9999)]
  rfl
theorem run_zeroV {P : Program} {w : World} {t : TypeId} {z : Value} (h : (P.info? t).bind (·.zero) = some z) : (zeroValue t).run P w = .ok z w := by
  cases hi : P.info? t with
  | none => simp [hi] at h
  | some i =>
    have hz : i.zero = some z := by simpa [hi] using h
    simp [zeroValue, typeInfo, hi, hz]
theorem toList_at {es : Array MapEntry} {j : Nat} {e : MapEntry} (h : es.toList[j]? = some e) : es[j]? = some e := by simpa using h
section
variable {P : Program} {n : Nat} {S : List Nat} {w0 : World} {ss : List (Nat × Value)} {l : List It} {o : Oper}
theorem lk_run {a : Act} {w : World} {t kt et : TypeId} {x ix : Operand} {g : Nat} {k : Int} {f : Int → Option Value} {z : Value} (ho : o.op = .lookup t x ix false) (ht : P.underlying t = some (.map kt et)) (hk : P.underlying kt = some (.int .i64)) (hz : (P.info? et).bind (·.zero) = some z)
    (hx : evO ss x = some (.map (some g))) (hi : evO ss ix = some (.int .i64 k)) (F : Fr n ss a) (hp : (It.mp g f).P w) : (execOp a.eval o).run P w = .ok (.value ((f k).getD z)) w := by
  obtain ⟨es, c, h1, h2⟩ := hp
  cases hf : f k with
  | none => simp [execOp, ho, F.ev hx, F.ev hi, Instr.lookup, run_underlying ht, run_getMap h1, run_keyInt hk, run_findNone hk h2 hf, run_zeroV hz]
  | some v =>
    obtain ⟨j, e, _, _, _, h6⟩ := run_findSome (P := P) (w := w) hk h2 hf
    simp [execOp, ho, F.ev hx, F.ev hi, Instr.lookup, run_underlying ht, run_getMap h1, run_keyInt hk, h6]
theorem y_lookup {t kt et : TypeId} {x ix : Operand} {g : Nat} {k : Int} {f : Int → Option Value} {z : Value} (ho : o.op = .lookup t x ix false) (ht : P.underlying t = some (.map kt et)) (hk : P.underlying kt = some (.int .i64)) (hz : (P.info? et).bind (·.zero) = some z)
    (hx : evO ss x = some (.map (some g))) (hi : evO ss ix = some (.int .i64 k)) (hm : It.mp g f ∈ l) : Yld P n S w0 ss l o ((f k).getD z) := fun a w F hs => lk_run ho ht hk hz hx hi F (hs.all _ hm)
theorem y_lookupO {t kt et : TypeId} {x ix : Operand} {g : Nat} {k : Int} {f : Int → Option Value} {z : Value} (ho : o.op = .lookup t x ix false) (ht : P.underlying t = some (.map kt et)) (hk : P.underlying kt = some (.int .i64)) (hz : (P.info? et).bind (·.zero) = some z)
    (hx : evO ss x = some (.map (some g))) (hi : evO ss ix = some (.int .i64 k)) (hm : (It.mp g f).P w0) : Yld P n [] w0 ss l o ((f k).getD z) := fun a w F hs => lk_run ho ht hk hz hx hi F (hs.keep hm)
variable {ops : Array Oper} {rest : List Oper} {Q : Exit → Act → World → Prop} {a : Act} {w : World}
theorem upd_mem {l l' : List It} {i i' : It} (h : Upd l i i' l') : i ∈ l := by
  obtain ⟨r, h1, _⟩ := h.perm
  exact h1.symm.subset (by simp)
theorem st_makeMap {t : TypeId} {d : Nat} (ho : o.op = .makeMap t none) (hw : wantB ops ss o = some true) (hd : o.dst = some d) (hn : Nat.ble (d + 1) n = true) (H : St n S w0 ss l a w)
    (K : ∀ g a' w', St n S w0 ((d, .map (some g)) :: ss) (It.mp g (fun _ => none) :: l) a' w' → wpList P ops Q rest a' w') : wpList P ops Q (o :: rest) a w := by
  refine does (v := .map (some w.heap.size)) (w' := w.alloc (.map #[] 0)) hw hd hn H ?_ (H.sep.add (Frm.alloc w _) (i' := It.mp w.heap.size (fun _ => none)) ?_ ?_) (fun a' H' => K w.heap.size a' _ H')
  · simp [execOp, ho, Instr.makeMap, newObj, Sem.run]
  · exact ⟨#[], 0, by show (w.heap.push _)[w.heap.size]? = _; simp, MapOk.empty⟩
  · intro b hb
    have : b = w.heap.size := by simpa [It.mp] using hb
    omega
theorem run_mapUpdate {t kt et : TypeId} {g : Nat} {k : Int} {v : Value} {f : Int → Option Value} (ht : P.underlying t = some (.map kt et)) (hk : P.underlying kt = some (.int .i64)) (hp : (It.mp g f).P w) :
    ∃ w', (Instr.mapUpdate t (.map (some g)) (.int .i64 k) v).run P w = .ok () w' ∧ Frm [g] w w' ∧ (It.mp g (mset f k v)).P w' := by
  obtain ⟨es, c, h1, h2⟩ := hp
  cases hf : f k with
  | none =>
    refine ⟨_, ?_, putObj_frm (.map (es.push ⟨.int .i64 k, v, c⟩) (c + 1)), _, _, putObj_at h1, ?_⟩
    · simp [Instr.mapUpdate, run_underlying ht, run_getMap h1, run_keyInt hk, run_findNone hk h2 hf, run_setMap h1]
    · simpa using h2.push (k := k) (u := v) hf
  | some u =>
    obtain ⟨j, e, h3, h4, h5, h6⟩ := run_findSome (P := P) (w := w) hk h2 hf
    refine ⟨_, ?_, putObj_frm (.map (es.modify j fun e => { e with key := .int .i64 k, val := v }) c), _, _, putObj_at h1, ?_⟩
    · simp [Instr.mapUpdate, run_underlying ht, run_getMap h1, run_keyInt hk, h6, toList_at h3, h4, run_keyStays, run_setMap h1]
    · rw [Array.toList_modify]
      exact h2.mod h3 h4 rfl rfl rfl
theorem st_mapUpdate {t kt et : TypeId} {x ix y : Operand} {g : Nat} {k : Int} {v : Value} {f : Int → Option Value} {l' : List It} (ho : o.op = .mapUpdate t x ix y) (ht : P.underlying t = some (.map kt et)) (hk : P.underlying kt = some (.int .i64))
    (hx : evO ss x = some (.map (some g))) (hi : evO ss ix = some (.int .i64 k)) (hy : evO ss y = some v) (hu : Upd l (It.mp g f) (It.mp g (mset f k v)) l') (hw : wantB ops ss o = some true) (hd : o.dst = none) (H : St n S w0 ss l a w)
    (K : ∀ w', St n S w0 ss l' a w' → wpList P ops Q rest a w') : wpList P ops Q (o :: rest) a w := by
  obtain ⟨w', h1, h2, h3⟩ := run_mapUpdate (k := k) (v := v) ht hk (H.sep.all _ (upd_mem hu))
  refine does_none (w' := w') hw hd H ?_ (H.sep.upd hu h2 h3 (by intro b' hb'; exact .inl hb')) (fun H' => K _ H')
  simp [execOp, ho, H.fr.ev hx, H.fr.ev hi, H.fr.ev hy, h1]
/-- A call that is given some items, which stand by themselves. -/
theorem st_callk2 {d : Nat} {f : FuncId} {args : List Value} {is lr : List It} {Φ : Value → List It → Prop} (he : Enters P n ss o f args) (hw : wantB ops ss o = some true) (hd : o.dst = some d) (hn : Nat.ble (d + 1) n = true) (H : St n S w0 ss l a w)
    (hp : Picks l is lr) (hk : Sep (fps is) w w is → Calls P f args.toArray w (Post (fps is) w Φ)) (K : ∀ v l' a' w', Φ v l' → St n S w0 ((d, v) :: ss) (l' ++ lr) a' w' → wpList P ops Q rest a' w') : wpList P ops Q (o :: rest) a w :=
  st_callk he hw hd hn H hp (hk (Sep.given H.sep hp)) K
/-- A function value that hands back one value and no memory. -/
theorem qcallv {Qa : Act → Prop} {d : Nat} {f : FuncId} {args : List Value} {v : Value} (he : Enters P n ss o f args) (hw : wantB ops ss o = some true) (hd : o.dst = some d) (hn : Nat.ble (d + 1) n = true) (H : Fr n ss a) (hk : ∀ w, Sep S w0 w l → Calls P f args.toArray w (Gives v [] w))
    (K : ∀ a', Fr n ((d, v) :: ss) a' → wpQuiet P ops (fun w' => Sep S w0 w' l) Qa rest a') : wpQuiet P ops (fun w' => Sep S w0 w' l) Qa (o :: rest) a := by
  unfold wpQuiet
  rw [if_pos (wanted_of H hw)]
  refine ⟨v, fun w hs => ?_, ?_⟩
  · unfold Oper.quietAt
    rw [he a w H]
    refine ⟨rfl, (hk w hs).mono ?_⟩
    rintro e w' ⟨u, l', rfl, ⟨rfl, rfl⟩, hs'⟩
    exact ⟨rfl, by simpa using hs.call0 hs'⟩
  · rw [hd]
    exact K _ (H.put (Nat.lt_of_succ_le (Nat.le_of_ble_eq_true hn)) v)
end
end Go.Sx
