/- Part of a proof about given Go functions: contracts of functions, or plain laws. -/
import Derived.Test.YtlhddgkbbdfacaaDoorS7
import Derived.Scope
import Derived.Test.YtlhddgkbbdfacaaDoorS4
import Derived.Test.YtlhddgkbbdfacaaDoorS6
import Derived.Test.YtlhddgkbbdfacaaDoorS3
import Derived.Test.YtlhddgkbbdfacaaDoorS1
import Derived.Test.YtlhddgkbbdfacaaDoorS5
import Derived.Test.YtlhddgkbbdfacaaDoorS2
/- Own words: cells of structs told by their shape: single cells, and arrays of bytes. -/
set_option linter.unusedVariables false
set_option linter.unusedSimpArgs false
namespace Go.Sx
open Go.RowKit
section shape
variable {a b v : Value} {R R' C cs ds vs B : List Value} {t p q : List UInt8} {n o off z k : Nat}
/-! ### Lengths, single cells -/
theorem len_n : ([] : List Value).length = 0 := rfl
theorem len_c (h : R.length = n) : (a :: R).length = n + 1 := by rw [List.length_cons, h]
theorem len_b (ht : t.length = k) (h : R.length = n) : (t.map u8 ++ R).length = k + n := by rw [List.length_append, List.length_map, ht, h]
theorem len_e (ht : t.length = k) : (t.map u8).length = k := by rw [List.length_map, ht]
theorem one_n : ([] : List Value).all (·.oneCell') = true := rfl
theorem one_c (ha : a.oneCell' = true) (h : R.all (·.oneCell') = true) : (a :: R).all (·.oneCell') = true := by rw [List.all_cons, ha, h]; rfl
theorem one_b (h : R.all (·.oneCell') = true) : (t.map u8 ++ R).all (·.oneCell') = true := by rw [List.all_append, h, one_u8]; rfl
/-! ### A part laid over cells -/
theorem spl_c (h : spl R o vs = R') : spl (a :: R) (o + 1) vs = a :: R' := by
  subst h
  unfold spl
  rw [show o + 1 + vs.length = (o + vs.length) + 1 by omega]
  rfl
theorem spl_b (ht : t.length = k) (ho : k + o = off) (h : spl R o vs = R') : spl (t.map u8 ++ R) off vs = t.map u8 ++ R' := by
  subst h ho
  unfold spl
  rw [List.take_append, List.take_of_length_le (by rw [List.length_map]; omega), List.drop_append, List.drop_eq_nil_of_le (by rw [List.length_map]; omega), List.length_map, ht]
  simp only [List.nil_append, List.append_assoc]
  rw [show k + o - k = o by omega, show k + o + vs.length - k = o + vs.length by omega]
theorem spl_0 : spl (a :: R) 0 [v] = v :: R := rfl
theorem spl_h (hB : B.length = z) (hv : vs.length = z) : spl (B ++ C) 0 vs = vs ++ C := by
  unfold spl
  rw [List.take_zero, List.nil_append, Nat.zero_add, List.drop_left' (by omega)]
theorem spl_a (hB : cs.length = z) (hv : vs.length = z) : spl cs 0 vs = vs := spl_all (by rw [hB, hv])
/-! ### One cell written -/
theorem set_c (h : R.set o v = R') : (a :: R).set (o + 1) v = a :: R' := by rw [List.set_cons_succ, h]
theorem set_0 : (a :: R).set 0 v = v :: R := rfl
theorem set_b (ht : t.length = k) (ho : k + o = off) (h : R.set o v = R') : (t.map u8 ++ R).set off v = t.map u8 ++ R' := by
  subst h ho
  rw [List.set_append_right _ _ (by rw [List.length_map]; omega), List.length_map, ht, Nat.add_sub_cancel_left]
/-! ### One cell read -/
theorem ix_c (h : R[o]? = some v) : (a :: R)[o + 1]? = some v := by rw [List.getElem?_cons_succ, h]
theorem ix_0 : (a :: R)[0]? = some a := rfl
theorem ix_b (ht : t.length = k) (ho : k + o = off) (h : R[o]? = some v) : (t.map u8 ++ R)[off]? = some v := by
  subst ho
  rw [List.getElem?_append_right (by rw [List.length_map]; omega), List.length_map, ht, Nat.add_sub_cancel_left, h]
/-! ### Some cells read -/
theorem ld_c (h : (R.drop o).take z = ds) : ((a :: R).drop (o + 1)).take z = ds := h
theorem ld_h (ht : t.length = z) : ((t.map u8 ++ R).drop 0).take z = t.map u8 := by rw [List.drop_zero, List.take_left' (by rw [List.length_map, ht])]
theorem ld_a (h : cs.length = z) : (cs.drop 0).take z = cs := take_all h
theorem agg_cells (l : List Value) : (Value.agg l.toArray).cells.toList = l := rfl
/-! ### A literal of a struct -/
theorem lay_n {place : Nat → Option (Nat × Nat)} : lay place cs [] = some cs := rfl
theorem lay_f {place : Nat → Option (Nat × Nat)} {i : Nat} {cv cs1 : List Value} {rest : List (Nat × Value)} (hp : place i = some (off, z)) (hv : v.cells.toList = cv) (hl : cv.length = z) (hn : cs.length = n) (hb : off + z ≤ n) (hs : spl cs off cv = cs1) (hr : lay place cs1 rest = some ds) : lay place cs ((i, v) :: rest) = some ds := by
  simp only [lay, hp, hv, hl, hn]
  rw [if_neg (by omega), hs, hr]
theorem lay_1 {place : Nat → Option (Nat × Nat)} {i : Nat} {cs1 : List Value} {rest : List (Nat × Value)} (hp : place i = some (off, 1)) (hn : cs.length = n) (hb : off + 1 ≤ n) (hs : spl cs off [v] = cs1) (hr : lay place cs1 rest = some ds) (hv : v.cells.toList = [v]) : lay place cs ((i, v) :: rest) = some ds :=
  lay_f hp hv rfl hn hb hs hr
end shape
section ops
variable {P : Program} {n : Nat} {S : List Nat} {w0 : World} {ss : List (Nat × Value)} {l : List It} {o : Oper}
variable {ops : Array Oper} {Q : Exit → Act → World → Prop} {rest : List Oper} {a : Act} {w : World}
theorem st_storeN {t E : TypeId} {x y : Operand} {b off z : Nat} {cs vs cs' : List Value} {v : Value} {l' : List It} (ho : o.op = .store t x y) (hz : sizeB P t = some z) (hx : evO ss x = some (.pointer (some ⟨b, off, none⟩))) (hy : evO ss y = some v) (hv : v.cells.toList = vs) (hu : Upd l (It.blk b E cs) (It.blk b E cs') l') (h1 : vs.all (·.oneCell') = true) (hl : vs.length = z)
    {m : Nat} (hm : cs.length = m) (he : spl cs off vs = cs') (hf : off + z ≤ m) (hw : wantB ops ss o = some true) (hd : o.dst = none) (H : St n S w0 ss l a w)
    (K : ∀ w', St n S w0 ss l' a w' → wpList P ops Q rest a w') : wpList P ops Q (o :: rest) a w := by
  subst he
  exact st_store ho hz hx hy hv h1 hl hu (by omega) hw hd H K
theorem st_store1N {t E : TypeId} {x y : Operand} {b off : Nat} {cs cs' : List Value} {v : Value} {l' : List It} (ho : o.op = .store t x y) (hz : sizeB P t = some 1) (hx : evO ss x = some (.pointer (some ⟨b, off, none⟩))) (hy : evO ss y = some v) (h1 : v.oneCell' = true) (hu : Upd l (It.blk b E cs) (It.blk b E cs') l')
    {m : Nat} (hm : cs.length = m) (he : cs.set off v = cs') (hf : off < m) (hw : wantB ops ss o = some true) (hd : o.dst = none) (H : St n S w0 ss l a w)
    (K : ∀ w', St n S w0 ss l' a w' → wpList P ops Q rest a w') : wpList P ops Q (o :: rest) a w := by
  subst he
  exact st_store1 ho hz hx hy h1 hu (by omega) hw hd H K
end ops
/-! ### Structs side by side -/
def PartR (P : Program) (t : TypeId) (cs : List Value) (off : Nat) (v : Value) : Prop := ∀ w, (Go.part t cs.toArray off).run P w = .ok v w
def EqR (P : Program) (d : Nat) (t : TypeId) (x y : Value) (r : Bool) : Prop := ∀ w, (Op.equalIn d t x y).run P w = .ok r w
def EqFs (P : Program) (d : Nat) (xs ys : List Value) (fs : List Field) (r : Bool) : Prop := ∀ w, (Op.eqFields d xs.toArray ys.toArray fs).run P w = .ok r w
section eqs
variable {P : Program} {t e : TypeId} {cs ds xs ys : List Value} {off z d : Nat} {v x y : Value} {r r' : Bool} {f : Field} {fs : List Field}
theorem pa_1 (ht : aggB P t = some false) (hv : cs[off]? = some v) : PartR P t cs off v := by
  intro w
  simp [Go.part, run_isAgg' ht, hv]
theorem eqr_int {k k' : IntKind} {a b : Int} (h : P.underlying t = some (.int k')) : EqR P (d + 1) t (.int k a) (.int k b) (decide (a = b)) := fun w => by
  rw [run_equalIn_int w d t k k' a b h]
  rfl
theorem eqr_str {p q : List UInt8} (h : P.underlying t = some .string) : EqR P (d + 1) t (str p) (str q) (decide (p = q)) := fun w => by
  rw [run_equalIn_string w d t _ _ h, ← lbeq]
  simp [ByteArray.toList_eq]
theorem eqf_n : EqFs P d xs ys [] true := fun w => rfl
theorem eqf_c (hn : (f.name == "_") = false) (hx : PartR P f.type xs f.offset x) (hy : PartR P f.type ys f.offset y) (he : EqR P d f.type x y r) (hr : EqFs P d xs ys fs r') : EqFs P d xs ys (f :: fs) (r && r') := fun w => by
  have h1 : f.name ≠ "_" := by simpa using hn
  simp only [Op.eqFields, h1, ne_eq, not_false_eq_true, if_true, Sem.run_bind, hx w, hy w, he w, Result.andThen_ok]
  cases r
  · simp
  · simpa using hr w
theorem eqr_struct {fs : Array Field} (ht : P.underlying t = some (.struct fs)) (hp : P.stoodInHeld t = false) (h : EqFs P d xs ys fs.toList r) : EqR P (d + 1) t (.agg xs.toArray) (.agg ys.toArray) r := fun w => by
  have e : P.fieldsOf t = fs := by unfold Program.fieldsOf; rw [ht]
  rw [run_equalIn_struct w d t _ _ (by rw [e, ht]) hp, e]
  exact h w
variable {n : Nat} {S : List Nat} {w0 : World} {ss : List (Nat × Value)} {l : List It} {o : Oper}
theorem y_teql {t' : TypeId} {a b : Operand} (ho : o.op = .binOp .eql t a b t') (hm : P.eqGuardType P.depth t = false) (hx : evO ss a = some (.agg xs.toArray)) (hy : evO ss b = some (.agg ys.toArray)) (h : EqR P 10000 t (.agg xs.toArray) (.agg ys.toArray) r) : Yld P n S w0 ss l o (.bool r) := by
  intro a' w F _
  have hg := fun op (x y : Operand) xs ys => run_eqGuard_agg (P := P) (w := w) op t x y xs ys hm
  simp [execOp, ho, F.ev hx, F.ev hy, hg, run_eql_struct, h w]
theorem y_tneq {t' : TypeId} {a b : Operand} (ho : o.op = .binOp .neq t a b t') (hm : P.eqGuardType P.depth t = false) (hx : evO ss a = some (.agg xs.toArray)) (hy : evO ss b = some (.agg ys.toArray)) (h : EqR P 10000 t (.agg xs.toArray) (.agg ys.toArray) r) : Yld P n S w0 ss l o (.bool (!r)) := by
  intro a' w F _
  have hg := fun op (x y : Operand) xs ys => run_eqGuard_agg (P := P) (w := w) op t x y xs ys hm
  simp [execOp, ho, F.ev hx, F.ev hy, hg, run_neq_struct, h w]
end eqs
section calls
variable {P : Program} {n : Nat} {S : List Nat} {w0 : World} {ss : List (Nat × Value)} {l : List It} {o : Oper}
variable {ops : Array Oper} {Q : Exit → Act → World → Prop} {rest : List Oper} {a : Act} {w : World}
theorem Row.cap {e : TypeId} {size : Nat} {A : Option Addr} {n c : Nat} {xs : List Value} {w : World} (h : Row e size (.slice A n c) n xs w) : n ≤ c := by
  rcases h.2 with ⟨h1, h2⟩ | ⟨g, cap, cur, fz, hv, hg, h1, h2⟩
  · omega
  · injection hv with e1 e2 e3
    omega
theorem row_cap {e size : Nat} {A : Option Addr} {n c : Nat} {xs : List Value} (hs : Sep S w0 w l) (hm : It.row e size (.slice A n c) n xs ∈ l) : n ≤ c := Row.cap (hs.all _ hm)
end calls
section scope
variable {Q : Exit → Act → World → Prop} {a : Act} {w : World}
variable {P : Program} {n : Nat} {S : List Nat} {w0 : World} {ss : List (Nat × Value)} {l : List It} {o : Oper}
theorem y_bstrN {s t e : TypeId} {x : Operand} {A : Option Addr} {m c : Nat} {p : List UInt8} (ho : o.op = .convert s t x) (hs : P.underlying s = some (.slice e)) (he : P.underlying e = some (.int .u8)) (ht : P.underlying t = some .string) (hx : evO ss x = some (.slice A m c)) (hr : ∀ w, Sep S w0 w l → Rd w A (p.map u8)) (hm : m = p.length) : Yld P n S w0 ss l o (str p) :=
  y_bstr ho hs he ht hx hm hr
end scope
end Go.Sx

/- Bids, receipts, batches and items as cells. -/
namespace Go.Note
open Go.Sx
abbrev I64 (n : Int) : Prop := -9223372036854775808 ≤ n ∧ n ≤ 9223372036854775807
def Bid.cells (b : Bid) : List Value := i64 b.round :: i64 b.who :: i64 b.amount :: i64 b.salt :: b.tag.map u8
structure Bid.Wf (b : Bid) : Prop where
  round : I64 b.round
  who : I64 b.who
  amount : I64 b.amount
  salt : I64 b.salt
  tag : b.tag.length = 32
end Go.Note
namespace Go.Note
open Go.Sx
def Receipt.cells (r : Receipt) : List Value := i64 r.index :: i64 r.kind :: i64 r.time :: str r.body :: (r.prev.map u8 ++ r.hash.map u8)
structure Receipt.Wf (r : Receipt) : Prop where
  index : I64 r.index
  kind : I64 r.kind
  time : I64 r.time
  body : r.body.length ≤ 140737488351232
  prev : r.prev.length = 32
  hash : r.hash.length = 32
def Item.cells (i : Item) : List Value := [i64 i.kind, i64 i.who, i64 i.n, str i.text]
structure Item.Wf (i : Item) : Prop where
  kind : I64 i.kind
  who : I64 i.who
  n : I64 i.n
  text : i.text.length ≤ 140737488351232
def Part.cells (p : Part) : List Value := [.bool p.delayed, str p.text]
def pc (ps : List Part) : List Value := (ps.map Part.cells).flatten
end Go.Note
namespace Go.Note
open Go.Sx
end Go.Note
namespace Go.Note
open Go.Sx
def Batch.cells (b : Batch) (A : Option Addr) (c : Nat) : List Value := [i64 b.seq, i64 b.first, i64 b.before, .slice A b.parts.length c]
structure Batch.Wf (b : Batch) : Prop where
  seq : I64 b.seq
  first : I64 b.first
  before : I64 b.before
  len : b.parts.length ≤ 9223372036854775807
  texts : ∀ p ∈ b.parts, p.text.length ≤ 140737488351232
end Go.Note
namespace Go.Note
open Go.Sx
theorem text0 {t : List UInt8} : t = [] ↔ t.length = 0 := List.length_eq_zero_iff.symm
end Go.Note
namespace Go.Note
open Go.Sx
end Go.Note

/- One of each, as cells. -/
namespace Go.Note
open Go.Sx
structure All where
  bid : Bid
  receipt : Receipt
  batch : Batch
  A : Option Addr
  c : Nat
  item : Item
def All.cells (x : All) : List Value :=
  i64 x.bid.round :: i64 x.bid.who :: i64 x.bid.amount :: i64 x.bid.salt :: (x.bid.tag.map u8 ++ (i64 x.receipt.index :: i64 x.receipt.kind :: i64 x.receipt.time :: str x.receipt.body :: (x.receipt.prev.map u8 ++ (x.receipt.hash.map u8 ++
    [i64 x.batch.seq, i64 x.batch.first, i64 x.batch.before, .slice x.A x.batch.parts.length x.c, i64 x.item.kind, i64 x.item.who, i64 x.item.n, str x.item.text]))))
structure All.Wf (W : World) (x : All) : Prop where
  bid : Bid.Wf x.bid
  receipt : Receipt.Wf x.receipt
  batch : Batch.Wf x.batch
  rd : Rd W x.A (pc x.batch.parts)
  item : Item.Wf x.item
end Go.Note
namespace Go.Note
open Go.Sx
end Go.Note

/- Blocks and the inbox's entries as cells. -/
namespace Go.Inbox
open Go.Sx
open Go.Note (Z I64)
theorem flat_lenM {α : Type} {f : α → List Value} {z : Nat} : ∀ (l : List α), (∀ x ∈ l, (f x).length = z) → ((l.map f).flatten).length = l.length * z
  | [], _ => by simp
  | x :: l, h => by
    have h0 := h x (by simp)
    have ih := flat_lenM l (fun y hy => h y (by simp [hy]))
    simp only [List.map_cons, List.flatten_cons, List.length_append, List.length_cons, ih, h0]
    rw [Nat.add_mul]
    omega
theorem flat_takeM {α : Type} {f : α → List Value} {z : Nat} (d : α) : ∀ (l : List α) (i : Nat), (∀ x ∈ l, (f x).length = z) → i < l.length → (((l.map f).flatten).drop (i * z)).take z = f (l.getD i d)
  | [], i, _, h => absurd h (by simp)
  | x :: l, 0, h, _ => by
    have h0 := h x (by simp)
    simp only [Nat.zero_mul, List.drop_zero, List.map_cons, List.flatten_cons]
    rw [← h0, List.take_left]
    rfl
  | x :: l, i + 1, h, hi => by
    have h0 := h x (by simp)
    have ih := flat_takeM d l i (fun y hy => h y (by simp [hy])) (by simpa using hi)
    simp only [List.map_cons, List.flatten_cons]
    rw [show (i + 1) * z = (f x).length + i * z by rw [h0, Nat.add_mul]; omega, Oct.drop_at, ih]
    rfl
theorem flat_getM {α : Type} {f : α → List Value} {z : Nat} (d : α) {l : List α} {i j : Nat} (h : ∀ x ∈ l, (f x).length = z) (hi : i < l.length) (hj : j < z) : ((l.map f).flatten)[i * z + j]? = (f (l.getD i d))[j]? := by
  rw [← flat_takeM d l i h hi, List.getElem?_take, if_pos hj, List.getElem?_drop]
def ic (l : List Note.Item) : List Value := (l.map Note.Item.cells).flatten
theorem ic_len (l : List Note.Item) : (ic l).length = l.length * 4 := flat_lenM l fun _ _ => rfl
theorem ic_take {l : List Note.Item} (i : Nat) (h : i < l.length) : ((ic l).drop (i * 4)).take 4 = Note.Item.cells (l.getD i Note.Item.zero) := flat_takeM _ l i (fun _ _ => rfl) h
/-- A block, and where its items lie. -/
structure BA where
  b : Block
  A : Option Addr
  c : Nat
def BA.zero : BA := ⟨⟨0, 0, Z, []⟩, none, 0⟩
def BA.cells (x : BA) : List Value := i64 x.b.number :: i64 x.b.salt :: (x.b.parent.map u8 ++ [.slice x.A x.b.items.length x.c])
structure BA.Wf (W : World) (x : BA) : Prop where
  number : I64 x.b.number
  salt : I64 x.b.salt
  parent : x.b.parent.length = 32
  len : x.b.items.length ≤ 9223372036854775807
  items : ∀ i ∈ x.b.items, Note.Item.Wf i
  rd : Rd W x.A (ic x.b.items)
theorem BA.cells_len {x : BA} (h : x.b.parent.length = 32) : x.cells.length = 35 := by simp [BA.cells, h]
def bc (l : List BA) : List Value := (l.map BA.cells).flatten
theorem bc_len {W : World} {l : List BA} (h : ∀ x ∈ l, BA.Wf W x) : (bc l).length = l.length * 35 := flat_lenM l fun x hx => BA.cells_len (h x hx).parent
theorem bc_take {W : World} {l : List BA} (h : ∀ x ∈ l, BA.Wf W x) (i : Nat) (hi : i < l.length) : ((bc l).drop (i * 35)).take 35 = BA.cells (l.getD i BA.zero) := flat_takeM _ l i (fun x hx => BA.cells_len (h x hx).parent) hi
def Entry.cells (e : Entry) : List Value := i64 e.who :: str e.text :: i64 e.block :: e.acc.map u8
structure Entry.Wf (e : Entry) : Prop where
  who : I64 e.who
  text : e.text.length ≤ 140737488351232
  block : I64 e.block
  acc : e.acc.length = 32
theorem Entry.cells_len {e : Entry} (h : e.acc.length = 32) : e.cells.length = 35 := by simp [Entry.cells, h]
def ec (l : List Entry) : List Value := (l.map Entry.cells).flatten
theorem bc_cell (l : List BA) : ∀ u ∈ bc l, u.oneCell' = true := by
  intro u hu
  simp only [bc, List.mem_flatten, List.mem_map] at hu
  obtain ⟨_, ⟨e, _, rfl⟩, hu⟩ := hu
  simp only [BA.cells, List.mem_cons, List.mem_append, List.mem_map, List.not_mem_nil, or_false] at hu
  rcases hu with rfl | rfl | ⟨b, _, rfl⟩ | rfl <;> rfl
end Go.Inbox

/- The inbox's messages, block by block and item by item. -/
namespace Go.Inbox
open Go.Note (Z)
theorem memD {α : Type} {l : List α} {k : Nat} (d : α) (h : k < l.length) : l.getD k d ∈ l := by
  rw [Oct.getD_eq d h]
  exact List.getElem_mem h
/-! ### Calls -/
end Go.Inbox

/- What the inbox must give at any rate, as cells. -/
namespace Go.Inbox
open Go.Sx
open Go.Note (Z I64)
theorem bc_one (x : BA) : bc [x] = BA.cells x := by simp [bc]
/-- What a call names. -/
structure Q where
  n : Int
  t : Int
  wt : Int
def Q.cells (q : Q) : List Value := [Sx.i64 q.n, Sx.i64 q.t, Sx.i64 q.wt]
end Go.Inbox

/- Own words: the first blocks of a list, the first entries, worlds that grow. -/
namespace Go.Inbox
open Go.Sx
open Go.Note (Z I64)
theorem BA.Wf.frm {S : List Nat} {w0 w : World} {x : BA} (h : BA.Wf w0 x) (k : Frm S w0 w) (hS : ∀ ad, x.A = some ad → ad.block ∉ S) : BA.Wf w x := { h with rd := h.rd.frm k hS }
theorem flat_pre {α : Type} {f : α → List Value} {z : Nat} : ∀ (l : List α) (k : Nat), (∀ x ∈ l, (f x).length = z) → ((l.take k).map f).flatten = ((l.map f).flatten).take (k * z)
  | [], k, _ => by simp
  | x :: l, 0, _ => by simp
  | x :: l, k + 1, h => by
    have h1 := flat_pre l k (fun y hy => h y (List.mem_cons_of_mem _ hy))
    have h2 := h x List.mem_cons_self
    simp only [List.take_succ_cons, List.map_cons, List.flatten_cons, h1]
    rw [List.take_append, h2, List.take_of_length_le (l := f x) (by rw [h2, Nat.succ_mul]; omega), show (k + 1) * z - z = k * z by rw [Nat.succ_mul]; omega]
theorem bc_pre {W : World} {l : List BA} (h : ∀ x ∈ l, BA.Wf W x) (k : Nat) : bc (l.take k) = (bc l).take (k * 35) := flat_pre l k fun x hx => BA.cells_len (h x hx).parent
theorem ec_pre {l : List Entry} (h : ∀ x ∈ l, x.acc.length = 32) (k : Nat) : ec (l.take k) = (ec l).take (k * 35) := flat_pre l k fun x hx => Entry.cells_len (h x hx)
theorem bc_append (l m : List BA) : bc (l ++ m) = bc l ++ bc m := by simp [bc]
/-- At most n of the blocks. -/
theorem few {w : World} {X : List BA} {A : Option Addr} (n : Nat) (hX : ∀ x ∈ X, BA.Wf w x) (hit : ∀ x ∈ X, x.b.items.length ≤ 1048576) (hR : Rd w A (bc X)) :
    ∃ Y : List BA, (∀ x ∈ Y, BA.Wf w x) ∧ (∀ x ∈ Y, x.b.items.length ≤ 1048576) ∧ Rd w A (bc Y) ∧ Y.length ≤ n ∧ (X.length ≤ n → Y.length = X.length) ∧ (n < X.length → Y.length = n) :=
  ⟨X.take n, fun x hx => hX x (List.mem_of_mem_take hx), fun x hx => hit x (List.mem_of_mem_take hx), by rw [bc_pre hX]; exact hR.take _, by simp; omega, fun h => by simp; omega, fun h => by simp; omega⟩
theorem rd_pre {w : World} {A : Option Addr} {l : List Entry} (h : ∀ x ∈ l, x.acc.length = 32) (hR : Rd w A (ec l)) (k : Nat) : Rd w A (ec (l.take k)) := by rw [ec_pre h]; exact hR.take _
end Go.Inbox

/- Own words: functions as values; calls that are given several items. -/
set_option linter.unusedVariables false
set_option linter.unusedSimpArgs false
namespace Go.Sx
open Go.RowKit
variable {P : Program} {n : Nat} {S : List Nat} {w0 w : World} {ss : List (Nat × Value)} {l : List It} {o : Oper} {a : Act}
variable {ops : Array Oper} {Q : Exit → Act → World → Prop} {rest : List Oper}
/-- A function value with what it holds. -/
theorem y_fn {f : Fn} {xs ys : List Operand} {us vs : List Value} (ho : o.op = .makeFunc f xs.toArray ys.toArray) (hx : evs ss xs = some us) (hy : evs ss ys = some vs) : Yld P n S w0 ss l o (.func f us.toArray vs.toArray) := by
  intro a w F _
  have h1 := evs_map F hx
  have h2 := evs_map F hy
  simp [execOp, ho, Instr.makeFunc, List.map_toArray, h1, h2]
theorem y_max2 {x y : Operand} {t u : TypeId} {k : IntKind} {p q : Int} (ho : o.op = .call { callee := .builtin .max, args := #[x, y], argTypes := #[t, u] }) (hx : evO ss x = some (.int k p)) (hy : evO ss y = some (.int k q)) : Yld P n S w0 ss l o (.int k (max p q)) := by
  intro a w F _
  have e : (if p < q then q else p) = max p q := by split <;> omega
  simp [execOp, ho, F.ev hx, F.ev hy, resolve, invoke, builtin, Builtin.max_, Builtin.max2, e]
/-- A call that runs a function of the program on arguments. -/
def Enters (P : Program) (n : Nat) (ss : List (Nat × Value)) (o : Oper) (f : FuncId) (args : List Value) : Prop := ∀ a w, Fr n ss a → (execOp a.eval o).run P w = .ok (.enter f args.toArray) w
theorem enters_call {f : FuncId} {xs : List Operand} {ts : Array TypeId} {args : List Value} (ho : o.op = .call { callee := .value (.func f), args := xs.toArray, argTypes := ts }) (hc : callB P f = true) (ha : evs ss xs = some args) : Enters P n ss o f args :=
  fun _ _ F => run_call ho hc F ha
/-- One item of several. -/
inductive Pick : List It → It → List It → Prop
  | head (i : It) (l : List It) : Pick (i :: l) i l
  | tail (x : It) {i : It} {l r : List It} : Pick l i r → Pick (x :: l) i (x :: r)
theorem Pick.perm {l r : List It} {i : It} (h : Pick l i r) : l.Perm (i :: r) := by
  induction h with
  | head i l => exact .refl _
  | tail x h ih => exact (ih.cons x).trans (.swap _ _ _)
theorem Ph {i : It} {l : List It} : Pick (i :: l) i l := .head i l
theorem Pt {x i : It} {l r : List It} (h : Pick l i r) : Pick (x :: l) i (x :: r) := .tail x h
inductive Picks : List It → List It → List It → Prop
  | nil (l : List It) : Picks l [] l
  | cons {l m r is : List It} {i : It} : Pick l i m → Picks m is r → Picks l (i :: is) r
theorem Picks.perm {l r is : List It} (h : Picks l is r) : l.Perm (is ++ r) := by
  induction h with
  | nil l => exact .refl _
  | cons h _ ih => exact h.perm.trans (ih.cons _)
def fps (l : List It) : List Nat := l.flatMap It.fp
theorem mem_fps {l : List It} {b : Nat} (h : b ∈ fps l) : ∃ i ∈ l, b ∈ i.fp := List.mem_flatMap.1 h
/-- A call that is given some items, and leaves others. -/
theorem st_callk {d : Nat} {f : FuncId} {args : List Value} {is lr : List It} {Φ : Value → List It → Prop} (he : Enters P n ss o f args) (hw : wantB ops ss o = some true) (hd : o.dst = some d) (hn : Nat.ble (d + 1) n = true) (H : St n S w0 ss l a w)
    (hp : Picks l is lr) (hk : Calls P f args.toArray w (Post (fps is) w Φ)) (K : ∀ v l' a' w', Φ v l' → St n S w0 ((d, v) :: ss) (l' ++ lr) a' w' → wpList P ops Q rest a' w') : wpList P ops Q (o :: rest) a w :=
  st_enter (lT := is) (he a w H.fr) hw hd hn ⟨H.fr, H.sep.perm hp.perm.symm⟩ (fun b hb => mem_fps hb) hk K
/-- What a call is given stands by itself. -/
theorem Sep.given {is lr : List It} (H : Sep S w0 w l) (hp : Picks l is lr) : Sep (fps is) w w is := by
  have h := (H.perm hp.perm.symm)
  refine ⟨Frm.refl _ _, fun i hi => h.all i (List.mem_append_left _ hi), fun i hi b hb => .inl (List.mem_flatMap.2 ⟨i, hi, hb⟩), (List.pairwise_append.1 h.dis).1⟩
theorem fps_new {is lr : List It} {T : List (BitVec 32)} {g : Nat} (H : Sep [] w0 w l) (hp : Picks l is lr) (hG : Glob g T w0) (hT : 0 < T.length) : g ∉ fps is := fun hm => by
  have h := (H.perm hp.perm.symm)
  obtain ⟨i, hi, hb⟩ := mem_fps hm
  have h1 := World.block_lt_of_cell? w0 _ (hG 0 hT)
  rcases h.own i (List.mem_append_left _ hi) g hb with h2 | h2
  · cases h2
  · have h1 : g < w0.heap.size := h1
    omega
end Go.Sx

/- Own words: maps with integer keys that a call owns. -/
set_option linter.unusedVariables false
set_option linter.unusedSimpArgs false
namespace Go.Sx
open Go.RowKit
/-- What a list of entries holds at a key. -/
def mf : List MapEntry → Int → Option Value
  | [], _ => none
  | e :: es, k => match e.key with
    | .int .i64 a => if a = k then some e.val else mf es k
    | _ => mf es k
structure MapOk (es : List MapEntry) (clock : Nat) (f : Int → Option Value) : Prop where
  keys : ∀ e ∈ es, ∃ a, e.key = .int .i64 a
  apart : es.Pairwise fun x y => x.key ≠ y.key
  at_ : ∀ k, mf es k = f k
  old : ∀ e ∈ es, e.born < clock
  born : es.Pairwise fun x y => x.born ≠ y.born
theorem mf_none {es : List MapEntry} {k : Int} (h : mf es k = none) : ∀ e ∈ es, e.key ≠ .int .i64 k := by
  induction es with
  | nil => intro e he; cases he
  | cons x es ih =>
    intro e he hk
    simp only [mf] at h
    rcases List.mem_cons.1 he with rfl | he
    · rw [hk] at h; simp at h
    · refine ih ?_ e he hk
      split at h
      · split at h
        · simp at h
        · exact h
      · exact h
theorem mf_append (es : List MapEntry) (x : MapEntry) (k a : Int) (hk : ∀ e ∈ es, ∃ a, e.key = .int .i64 a) (hx : x.key = .int .i64 a) (h : mf es a = none) : mf (es ++ [x]) k = if k = a then some x.val else mf es k := by
  induction es with
  | nil =>
    simp only [List.nil_append, mf, hx]
    by_cases hak : a = k
    · subst hak; simp
    · rw [if_neg hak, if_neg (fun e => hak e.symm)]
  | cons y es ih =>
    obtain ⟨b, hb⟩ := hk y List.mem_cons_self
    simp only [List.cons_append, mf, hb] at h ⊢
    split at h
    · simp at h
    · rename_i hba
      have ih' := ih (fun e he => hk e (List.mem_cons_of_mem _ he)) h
      by_cases hbk : b = k
      · subst hbk
        rw [if_pos rfl, if_pos rfl, if_neg hba]
      · rw [if_neg hbk, if_neg hbk]
        exact ih'
/-- A map with one key set. -/
def mset (f : Int → Option Value) (k : Int) (v : Value) : Int → Option Value := fun a => if a = k then some v else f a
theorem MapOk.push {es : List MapEntry} {clock : Nat} {f : Int → Option Value} (h : MapOk es clock f) {k : Int} {u : Value} (hn : f k = none) : MapOk (es ++ [⟨.int .i64 k, u, clock⟩]) (clock + 1) (mset f k u) where
  keys := fun x hx => by
    rcases List.mem_append.1 hx with hx | hx
    · exact h.keys x hx
    · rw [List.mem_singleton.1 hx]; exact ⟨k, rfl⟩
  apart := by
    refine List.pairwise_append.2 ⟨h.apart, List.pairwise_singleton _ _, fun x hx y hy => ?_⟩
    rw [List.mem_singleton.1 hy]
    exact mf_none (by rw [h.at_, hn]) x hx
  at_ := fun a => by rw [mf_append _ _ _ k h.keys rfl (by rw [h.at_, hn]), h.at_]; rfl
  old := fun x hx => by
    rcases List.mem_append.1 hx with hx | hx
    · have := h.old x hx; omega
    · rw [List.mem_singleton.1 hx]; exact Nat.lt_succ_self _
  born := by
    refine List.pairwise_append.2 ⟨h.born, List.pairwise_singleton _ _, fun x hx y hy => ?_⟩
    rw [List.mem_singleton.1 hy]
    have := h.old x hx
    show x.born ≠ clock
    omega
/-! ### Items -/
def putObj (w : World) (g : Nat) (o : Obj) : World := { w with heap := w.heap.setIfInBounds g o }
section
variable {P : Program} {n : Nat} {S : List Nat} {w0 : World} {ss : List (Nat × Value)} {l : List It} {o : Oper}
variable {ops : Array Oper} {rest : List Oper} {Q : Exit → Act → World → Prop} {a : Act} {w : World}
/-- A call that is given some items, which stand by themselves. -/
theorem st_callk2 {d : Nat} {f : FuncId} {args : List Value} {is lr : List It} {Φ : Value → List It → Prop} (he : Enters P n ss o f args) (hw : wantB ops ss o = some true) (hd : o.dst = some d) (hn : Nat.ble (d + 1) n = true) (H : St n S w0 ss l a w)
    (hp : Picks l is lr) (hk : Sep (fps is) w w is → Calls P f args.toArray w (Post (fps is) w Φ)) (K : ∀ v l' a' w', Φ v l' → St n S w0 ((d, v) :: ss) (l' ++ lr) a' w' → wpList P ops Q rest a' w') : wpList P ops Q (o :: rest) a w :=
  st_callk he hw hd hn H hp (hk (Sep.given H.sep hp)) K
/-- What a call is not given stays. -/
theorem Sep.kept {is lr : List It} {j : It} {w' : World} (H : Sep S w0 w l) (hp : Picks l is lr) (hj : j ∈ lr) (F : Frm (fps is) w w') : j.P w' := by
  have h := H.perm hp.perm.symm
  have hP := h.all j (List.mem_append_right _ hj)
  refine j.st w w' (fun b hb => F.block b (j.lt w hP b hb) fun hm => ?_) hP
  obtain ⟨i, hi, hbi⟩ := mem_fps hm
  exact (List.pairwise_append.1 h.dis).2.2 i hi j hj b hbi hb
end
end Go.Sx

/- Own words: whole numbers as floats of 64 bits, and their order. -/
set_option linter.unusedVariables false
set_option linter.unusedSimpArgs false
namespace Go.Sx
open Go.RowKit
open Ieee (Toward Format Datum)
section
variable {P : Program} {n : Nat} {S : List Nat} {w0 : World} {ss : List (Nat × Value)} {l : List It} {o : Oper}
variable {w : World} {a : Act}
end
section
variable {P : Program} {rl : List Oper} {Q : Exit → Act → World → Prop} {fuel : Nat} {listed : Array Bool} {a : Act} {w : World} {o o' : Oper}
def fourB (rl : List Oper) (listed : Array Bool) (i j k m : Nat) : Bool := Region.ready .any rl.toArray listed == [i, j, k, m]
theorem hgo4 {T : World → Prop} {o2 o3 : Oper} (i j k q : Nat) (hi : rl[i]? = some o) (hj : rl[j]? = some o') (hk : rl[k]? = some o2) (hq : rl[q]? = some o3) (hB : fourB rl listed i j k q = true) (h : wpList P rl.toArray (HQ P rl Q T fuel (listed.setIfInBounds i true)) [o] a w) (h' : wpList P rl.toArray (HQ P rl Q T fuel (listed.setIfInBounds j true)) [o'] a w)
    (h2 : wpList P rl.toArray (HQ P rl Q T fuel (listed.setIfInBounds k true)) [o2] a w) (h3 : wpList P rl.toArray (HQ P rl Q T fuel (listed.setIfInBounds q true)) [o3] a w) :
    wpAnyH P .any rl.toArray (NoPanic Q) T (fuel + 1) listed a w := by
  have hB' : Region.ready .any rl.toArray listed = [i, j, k, q] := by simpa [fourB] using hB
  refine wpAnyH_all hB' (by simp) fun m hm => ?_
  simp only [List.mem_cons, List.not_mem_nil, or_false] at hm
  rcases hm with rfl | rfl | rfl | rfl
  · exact wpOp_of_list _ hi h
  · exact wpOp_of_list _ hj h'
  · exact wpOp_of_list _ hk h2
  · exact wpOp_of_list _ hq h3
end
end Go.Sx

/- Own words: items chosen out of what is given, in any order. -/
set_option linter.unusedVariables false
set_option linter.unusedSimpArgs false
namespace Go.Sx
open Go.RowKit
variable {P : Program} {n : Nat} {S : List Nat} {w0 w : World} {ss : List (Nat × Value)} {l : List It} {a : Act}
theorem Sep.these {is lr : List It} (H : Sep S w0 w l) (hp : Picks l is lr) : Sep S w0 w is := (H.perm hp.perm.symm).sub (List.sublist_append_left _ _)
theorem St.only {is lr : List It} (H : St n S w0 ss l a w) (hp : Picks l is lr) : St n S w0 ss is a w := ⟨H.fr, H.sep.these hp⟩
theorem St.front {is lr : List It} (H : St n S w0 ss l a w) (hp : Picks l is lr) : St n S w0 ss (is ++ lr) a w := ⟨H.fr, H.sep.perm hp.perm.symm⟩
theorem run_cct {fn : Func} {t ty b z t2 ty2 b2 z2 s : Nat} {E E2 : TypeId} {cs cs2 : List Value} {x : Value} (hr : fn.results = #[.cell t ty, .cell t2 ty2, .tmp s]) (H : St n S w0 ss l a w) (hv : find ss t = some (.pointer (some ⟨b, 0, none⟩))) (ht : aggB P ty = some true) (hz : sizeB P ty = some z) (hm : It.blk b E cs ∈ l) (hl : cs.length = z)
    (hv2 : find ss t2 = some (.pointer (some ⟨b2, 0, none⟩))) (ht2 : aggB P ty2 = some true) (hz2 : sizeB P ty2 = some z2) (hm2 : It.blk b2 E2 cs2 ∈ l) (hl2 : cs2.length = z2) (hs : find ss s = some x) :
    (results fn a.tmps).run P w = .ok (.tuple #[.agg cs.toArray, .agg cs2.toArray, x]) w := by
  have h1 : a.tmps[t]?.getD undef = .pointer (some ⟨b, 0, none⟩) := by simpa [Array.getD_eq_getD_getElem?] using getD_of H.fr hv
  have h3 : a.tmps[t2]?.getD undef = .pointer (some ⟨b2, 0, none⟩) := by simpa [Array.getD_eq_getD_getElem?] using getD_of H.fr hv2
  have h4 : a.tmps[s]?.getD undef = x := by simpa [Array.getD_eq_getD_getElem?] using getD_of H.fr hs
  have h2 : Rd w (some ⟨b, 0, none⟩) cs := by
    have := Rd.blk (blk_at hm H.sep) 0 cs.length
    simpa using this
  have h5 : Rd w (some ⟨b2, 0, none⟩) cs2 := by
    have := Rd.blk (blk_at hm2 H.sep) 0 cs2.length
    simpa using this
  subst hl hl2
  simp [results, hr, h1, h3, h4, loadVar, run_isAgg' ht, run_sizeOf' hz, run_isAgg' ht2, run_sizeOf' hz2, h2.load, h5.load, asAddr]
theorem retcct {fn : Func} {R : Ending → World → Prop} {t ty b z t2 ty2 b2 z2 s : Nat} {E E2 : TypeId} {cs cs2 : List Value} {x : Value} (hr : fn.results = #[.cell t ty, .cell t2 ty2, .tmp s]) (H : St n S w0 ss l a w) (hv : find ss t = some (.pointer (some ⟨b, 0, none⟩))) (ht : aggB P ty = some true) (hz : sizeB P ty = some z) (hm : It.blk b E cs ∈ l) (hl : cs.length = z)
    (hv2 : find ss t2 = some (.pointer (some ⟨b2, 0, none⟩))) (ht2 : aggB P ty2 = some true) (hz2 : sizeB P ty2 = some z2) (hm2 : It.blk b2 E2 cs2 ∈ l) (hl2 : cs2.length = z2) (hs : find ss s = some x) (h : R (.returned (.tuple #[.agg cs.toArray, .agg cs2.toArray, x])) w) : bodyPost P fn R .ret a w :=
  bodyPost_ret (run_cct hr H hv ht hz hm hl hv2 ht2 hz2 hm2 hl2 hs) H.fr.df h
theorem run_tct {fn : Func} {t ty b z u s : Nat} {E : TypeId} {cs : List Value} {v x : Value} (hr : fn.results = #[.tmp u, .cell t ty, .tmp s]) (H : St n S w0 ss l a w) (hu : find ss u = some v) (hv : find ss t = some (.pointer (some ⟨b, 0, none⟩))) (ht : aggB P ty = some true) (hz : sizeB P ty = some z) (hm : It.blk b E cs ∈ l) (hl : cs.length = z) (hs : find ss s = some x) :
    (results fn a.tmps).run P w = .ok (.tuple #[v, .agg cs.toArray, x]) w := by
  have h1 : a.tmps[t]?.getD undef = .pointer (some ⟨b, 0, none⟩) := by simpa [Array.getD_eq_getD_getElem?] using getD_of H.fr hv
  have h3 : a.tmps[u]?.getD undef = v := by simpa [Array.getD_eq_getD_getElem?] using getD_of H.fr hu
  have h4 : a.tmps[s]?.getD undef = x := by simpa [Array.getD_eq_getD_getElem?] using getD_of H.fr hs
  have h2 : Rd w (some ⟨b, 0, none⟩) cs := by
    have := Rd.blk (blk_at hm H.sep) 0 cs.length
    simpa using this
  subst hl
  simp [results, hr, h1, h3, h4, loadVar, run_isAgg' ht, run_sizeOf' hz, h2.load, asAddr]
theorem rettct {fn : Func} {R : Ending → World → Prop} {t ty b z u s : Nat} {E : TypeId} {cs : List Value} {v x : Value} (hr : fn.results = #[.tmp u, .cell t ty, .tmp s]) (H : St n S w0 ss l a w) (hu : find ss u = some v) (hv : find ss t = some (.pointer (some ⟨b, 0, none⟩))) (ht : aggB P ty = some true) (hz : sizeB P ty = some z) (hm : It.blk b E cs ∈ l) (hl : cs.length = z) (hs : find ss s = some x)
    (h : R (.returned (.tuple #[v, .agg cs.toArray, x])) w) : bodyPost P fn R .ret a w :=
  bodyPost_ret (run_tct hr H hu hv ht hz hm hl hs) H.fr.df h
/-! ### Short words -/
theorem MM {α : Type} {a : α} {l : List α} (h : a ∈ l := by repeat (first | exact Mh | apply Mt)) : a ∈ l := h
theorem UU {i i' : It} {l l' : List It} (h : Upd l i i' l' := by repeat (first | exact Uh | apply Ut)) : Upd l i i' l' := h
theorem PP {i : It} {l r : List It} (h : Pick l i r := by repeat (first | exact Ph | apply Pt)) : Pick l i r := h
theorem Sep.subA {S : List Nat} {w0 w : World} {l ls : List It} (h : Sep S w0 w l) (hs : ls.Sublist l := by first | exact S0 | exact S1 | repeat (first | exact S1 | exact S0 | apply S2 | apply S3)) : Sep S w0 w ls := h.sub hs
end Go.Sx

/- Chains of blocks as cells. -/
namespace Go.Tree
open Go.Sx
open Go.Note (Z I64)
open Go.Inbox (BA Block ic bc flat_lenM flat_takeM flat_getM flat_pre memD)
/-- A block whose cells are what they should be. -/
structure W0 (x : BA) : Prop where
  number : I64 x.b.number
  salt : I64 x.b.salt
  parent : x.b.parent.length = 32
  items : ∀ i ∈ x.b.items, Note.Item.Wf i
  bytes : x.b.items.length * 40 ≤ 140737488355328
abbrev Wfs (X : List BA) : Prop := ∀ x ∈ X, W0 x
theorem bc_len {X : List BA} (h : Wfs X) : (bc X).length = X.length * 35 := flat_lenM X fun x hx => BA.cells_len (h x hx).parent
theorem bc_take {X : List BA} (h : Wfs X) (i : Nat) (hi : i < X.length) : ((bc X).drop (i * 35)).take 35 = BA.cells (X.getD i BA.zero) := flat_takeM _ X i (fun x hx => BA.cells_len (h x hx).parent) hi
theorem bc_pre {X : List BA} (h : Wfs X) (k : Nat) : bc (X.take k) = (bc X).take (k * 35) := flat_pre X k fun x hx => BA.cells_len (h x hx).parent
theorem bc_append (X Y : List BA) : bc (X ++ Y) = bc X ++ bc Y := by simp [bc]
theorem bc_one (x : BA) : bc [x] = BA.cells x := by simp [bc]
theorem ba_cell (x : BA) : ∀ u ∈ BA.cells x, u.oneCell' = true := by
  rw [← bc_one]
  exact Inbox.bc_cell _
theorem Wfs.at_ {X : List BA} (h : Wfs X) {k : Nat} (hk : k < X.length) : W0 (X.getD k BA.zero) := h _ (memD _ hk)
theorem Wfs.take {X : List BA} (h : Wfs X) (k : Nat) : Wfs (X.take k) := fun x hx => h x (List.mem_of_mem_take hx)
theorem Wfs.app {X Y : List BA} (h : Wfs X) (g : Wfs Y) : Wfs (X ++ Y) := fun x hx => by
  rcases List.mem_append.1 hx with hx | hx
  · exact h x hx
  · exact g x hx
theorem Wfs.one {x : BA} (h : W0 x) : Wfs [x] := fun y hy => by rw [List.mem_singleton.1 hy]; exact h
theorem w0_zero : W0 BA.zero := ⟨⟨by decide, by decide⟩, ⟨by decide, by decide⟩, rfl, fun i hi => absurd hi (by simp [BA.zero]), by simp [BA.zero]⟩
theorem W0.len {x : BA} (h : W0 x) : (BA.cells x).length = 35 := BA.cells_len h.parent
/-! ### Items that nobody writes any more -/
def fzb (x : BA) : List Nat := if x.b.items = [] then [] else match x.A with
  | some ad => [ad.block]
  | none => []
theorem fzb_rd {w w' : World} {x : BA} (h : ∀ b ∈ fzb x, w'.heap[b]? = w.heap[b]?) (hR : Rd w x.A (ic x.b.items)) : Rd w' x.A (ic x.b.items) := by
  by_cases h0 : x.b.items = []
  · rw [h0]; exact .inl rfl
  · rcases hR with hR | ⟨ad, e, hR⟩
    · exact .inl hR
    · refine .inr ⟨ad, e, fun j v hv => ?_⟩
      have hc := hR j v hv
      have hb : (ad.add j).block = ad.block := by unfold Addr.add; split <;> rfl
      have hq := h ad.block (by unfold fzb; rw [if_neg h0, e]; simp)
      rw [← hc]
      unfold World.cell?
      rw [hb, hq]
theorem fzb_lt {w : World} {x : BA} (hR : Rd w x.A (ic x.b.items)) : ∀ b ∈ fzb x, b < w.heap.size := by
  intro b hb
  unfold fzb at hb
  split at hb
  · cases hb
  · rename_i h0
    rcases hR with hR | ⟨ad, e, hR⟩
    · exfalso
      have : (ic x.b.items).length = 0 := by rw [hR]; rfl
      rw [Inbox.ic_len] at this
      exact h0 (List.length_eq_zero_iff.1 (by omega))
    · rw [e] at hb
      have : b = ad.block := by simpa using hb
      subst this
      have hl : 0 < (ic x.b.items).length := by
        rw [Inbox.ic_len]
        have := List.length_pos_iff.2 h0
        omega
      have hc := hR 0 _ (List.getElem?_eq_getElem hl)
      have hb : (ad.add 0).block = ad.block := by unfold Addr.add; split <;> rfl
      have hlt := World.block_lt_of_cell? _ _ hc
      rwa [hb] at hlt
def It.fz (X : List BA) : It where
  fp := X.flatMap fzb
  P := fun w => ∀ x ∈ X, Rd w x.A (ic x.b.items)
  st := fun w w' h hp x hx => fzb_rd (fun b hb => h b (List.mem_flatMap.2 ⟨x, hx, hb⟩)) (hp x hx)
  lt := fun w hp b hb => by
    obtain ⟨x, hx, hb⟩ := List.mem_flatMap.1 hb
    exact fzb_lt (hp x hx) b hb
section
variable {n : Nat} {S : List Nat} {w0 w : World} {ss : List (Nat × Value)} {l : List It} {a : Go.Act}
theorem Sep.freeze {E : TypeId} {X : List BA} {x : BA} {c m : Nat} (h : Sep S w0 w (It.row E 4 (.slice x.A m c) m (ic x.b.items) :: It.fz X :: l)) : Sep S w0 w (It.fz (X ++ [x]) :: l) := by
  have hr := h.all _ List.mem_cons_self
  have hf := h.all _ (List.mem_cons_of_mem _ List.mem_cons_self)
  have hfp : ∀ b ∈ (It.fz (X ++ [x])).fp, b ∈ (It.row E 4 (.slice x.A m c) m (ic x.b.items)).fp ∨ b ∈ (It.fz X).fp := by
    intro b hb
    obtain ⟨y, hy, hb⟩ := List.mem_flatMap.1 hb
    rcases List.mem_append.1 hy with hy | hy
    · exact .inr (List.mem_flatMap.2 ⟨y, hy, hb⟩)
    · rw [List.mem_singleton.1 hy] at hb
      left
      unfold fzb at hb
      split at hb
      · cases hb
      · cases hA : x.A with
        | none => rw [hA] at hb; cases hb
        | some ad => rw [hA] at hb; simpa [It.row, Value.ownBlock, hA] using hb
  have hd := List.pairwise_cons.1 h.dis
  have hd2 := List.pairwise_cons.1 hd.2
  refine ⟨h.frm, fun i hi => ?_, fun i hi b hb => ?_, List.pairwise_cons.2 ⟨fun j hj b hb hbj => ?_, hd2.2⟩⟩
  · rcases List.mem_cons.1 hi with rfl | hi
    · intro y hy
      rcases List.mem_append.1 hy with hy | hy
      · exact hf y hy
      · rw [List.mem_singleton.1 hy]
        obtain ⟨A', c', e, hR, _⟩ := Row.rd hr
        injection e with e1
        rw [e1]
        exact hR
    · exact h.all i (List.mem_cons_of_mem _ (List.mem_cons_of_mem _ hi))
  · rcases List.mem_cons.1 hi with rfl | hi
    · rcases hfp b hb with hb | hb
      · exact h.own _ List.mem_cons_self b hb
      · exact h.own _ (List.mem_cons_of_mem _ List.mem_cons_self) b hb
    · exact h.own i (List.mem_cons_of_mem _ (List.mem_cons_of_mem _ hi)) b hb
  · rcases hfp b hb with hb | hb
    · exact hd.1 j (List.mem_cons_of_mem _ hj) b hb hbj
    · exact hd2.1 j hj b hb hbj
theorem St.freeze {E : TypeId} {X : List BA} {x : BA} {c m : Nat} (h : St n S w0 ss (It.row E 4 (.slice x.A m c) m (ic x.b.items) :: It.fz X :: l) a w) : St n S w0 ss (It.fz (X ++ [x]) :: l) a w := ⟨h.fr, Sep.freeze h.sep⟩
theorem Sep.thin {X Y : List BA} (h : Sep S w0 w (It.fz X :: l)) (hs : ∀ y ∈ Y, y ∈ X) : Sep S w0 w (It.fz Y :: l) := by
  refine h.conv (Upd.head _ _ _) (fun hp y hy => hp y (hs y hy)) fun b hb => ?_
  obtain ⟨y, hy, hb⟩ := List.mem_flatMap.1 hb
  exact List.mem_flatMap.2 ⟨y, hs y hy, hb⟩
theorem St.thin {X Y : List BA} (h : St n S w0 ss (It.fz X :: l) a w) (hs : ∀ y ∈ Y, y ∈ X) : St n S w0 ss (It.fz Y :: l) a w := ⟨h.fr, Sep.thin h.sep hs⟩
theorem Sep.addFz (h : Sep S w0 w l) : Sep S w0 w (It.fz [] :: l) := h.add (Frm.refl _ _) (fun x hx => absurd hx (by simp)) (by simp [It.fz])
theorem St.addFz (h : St n S w0 ss l a w) : St n S w0 ss (It.fz [] :: l) a w := ⟨h.fr, Sep.addFz h.sep⟩
theorem rd_fz {X : List BA} (hm : It.fz X ∈ l) {x : BA} (hx : x ∈ X) : ∀ w, Sep S w0 w l → Rd w x.A (ic x.b.items) := fun w hs => hs.all _ hm x hx
end
/-! ### The items of a block -/
def itexts (l : List Note.Item) (k : Nat) : List (List UInt8) := (l.take k).map fun i => (Note.writeItem i).1
theorem itexts_next {l : List Note.Item} {k : Nat} (h : k < l.length) : itexts l (k + 1) = itexts l k ++ [(Note.writeItem (l.getD k Note.Item.zero)).1] := by
  unfold itexts
  rw [Oct.take_succ Note.Item.zero h, List.map_append]
  rfl
theorem itexts_len {l : List Note.Item} {k : Nat} (h : k ≤ l.length) : (itexts l k).length = k := by
  unfold itexts
  rw [List.length_map, List.length_take]
  omega
def head3 (b : Block) : List (List UInt8) := [Note.num b.number, Note.num b.salt, b.parent]
theorem texts_is (b : Block) : texts b = head3 b ++ itexts b.items b.items.length := by
  unfold texts head3 itexts
  rw [List.take_length]
  rfl
theorem items_ok {l : List Note.Item} (h : ∀ j, j < l.length → (Note.writeItem (l.getD j Note.Item.zero)).2 = 0) : l.all Note.Item.ok = true := by
  rw [List.all_eq_true]
  intro i hi
  obtain ⟨j, hj, rfl⟩ := List.getElem_of_mem hi
  have := h j hj
  rw [Oct.getD_eq _ hj] at this
  exact (Inbox.write_ok _).1 this
theorem zero_of {b : Block} {k : Nat} (hk : k < b.items.length) (h : b.items.getD k Note.Item.zero = Note.Item.zero) : hash b = (Z, 2) := hash_at hk (by rw [h]; exact zero_bad)
end Go.Tree
