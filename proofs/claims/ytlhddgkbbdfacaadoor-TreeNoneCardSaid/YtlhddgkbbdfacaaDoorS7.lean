/- Part of a proof about given Go functions: contracts of functions, or plain laws. -/
import Derived.Test.YtlhddgkbbdfacaaDoorS6
import Derived.Test.YtlhddgkbbdfacaaDoorS4
import Derived.Test.YtlhddgkbbdfacaaDoorS2
import Derived.Test.YtlhddgkbbdfacaaDoorS3
import Derived.Test.YtlhddgkbbdfacaaDoorS1
import Derived.Test.YtlhddgkbbdfacaaDoorS5
/- Blocks and the inbox's entries as cells. -/
namespace Go.Inbox
open Go.Sx
open Go.Note (Z I64)
theorem flat_lenM {α : Type} {f : α → List Value} {z : Nat} : ∀ (l : List α), (∀ x ∈ l, (f x).length = z) → ((l.map f).flatten).length = l.length * z
  | [], _ => by simp
  | x :: l, h => by
    have h0 := h x (by simp)
    have ih := flat_lenM l (fun y hy => h y (by simp [hy]))
    simp only [List.map_cons, List.flatten_cons, List.length_append, List.length_cons, ih, h0]
    rw [Nat.add_mul]
    omega
theorem flat_takeM {α : Type} {f : α → List Value} {z : Nat} (d : α) : ∀ (l : List α) (i : Nat), (∀ x ∈ l, (f x).length = z) → i < l.length → (((l.map f).flatten).drop (i * z)).take z = f (l.getD i d)
  | [], i, _, h => absurd h (by simp)
  | x :: l, 0, h, _ => by
    have h0 := h x (by simp)
    simp only [Nat.zero_mul, List.drop_zero, List.map_cons, List.flatten_cons]
    rw [← h0, List.take_left]
    rfl
  | x :: l, i + 1, h, hi => by
    have h0 := h x (by simp)
    have ih := flat_takeM d l i (fun y hy => h y (by simp [hy])) (by simpa using hi)
    simp only [List.map_cons, List.flatten_cons]
    rw [show (i + 1) * z = (f x).length + i * z by rw [h0, Nat.add_mul]; omega, Oct.drop_at, ih]
    rfl
theorem flat_getM {α : Type} {f : α → List Value} {z : Nat} (d : α) {l : List α} {i j : Nat} (h : ∀ x ∈ l, (f x).length = z) (hi : i < l.length) (hj : j < z) : ((l.map f).flatten)[i * z + j]? = (f (l.getD i d))[j]? := by
  rw [← flat_takeM d l i h hi, List.getElem?_take, if_pos hj, List.getElem?_drop]
def ic (l : List Note.Item) : List Value := (l.map Note.Item.cells).flatten
theorem ic_len (l : List Note.Item) : (ic l).length = l.length * 4 := flat_lenM l fun _ _ => rfl
theorem ic_take {l : List Note.Item} (i : Nat) (h : i < l.length) : ((ic l).drop (i * 4)).take 4 = Note.Item.cells (l.getD i Note.Item.zero) := flat_takeM _ l i (fun _ _ => rfl) h
/-- A block, and where its items lie. -/
structure BA where
  b : Block
  A : Option Addr
  c : Nat
def BA.zero : BA := ⟨⟨0, 0, Z, []⟩, none, 0⟩
def BA.cells (x : BA) : List Value := i64 x.b.number :: i64 x.b.salt :: (x.b.parent.map u8 ++ [.slice x.A x.b.items.length x.c])
structure BA.Wf (W : World) (x : BA) : Prop where
  number : I64 x.b.number
  salt : I64 x.b.salt
  parent : x.b.parent.length = 32
  len : x.b.items.length ≤ 9223372036854775807
  items : ∀ i ∈ x.b.items, Note.Item.Wf i
  rd : Rd W x.A (ic x.b.items)
theorem BA.cells_len {x : BA} (h : x.b.parent.length = 32) : x.cells.length = 35 := by simp [BA.cells, h]
def bc (l : List BA) : List Value := (l.map BA.cells).flatten
def Entry.cells (e : Entry) : List Value := i64 e.who :: str e.text :: i64 e.block :: e.acc.map u8
structure Entry.Wf (e : Entry) : Prop where
  who : I64 e.who
  text : e.text.length ≤ 140737488351232
  block : I64 e.block
  acc : e.acc.length = 32
theorem Entry.cells_len {e : Entry} (h : e.acc.length = 32) : e.cells.length = 35 := by simp [Entry.cells, h]
theorem bc_cell (l : List BA) : ∀ u ∈ bc l, u.oneCell' = true := by
  intro u hu
  simp only [bc, List.mem_flatten, List.mem_map] at hu
  obtain ⟨_, ⟨e, _, rfl⟩, hu⟩ := hu
  simp only [BA.cells, List.mem_cons, List.mem_append, List.mem_map, List.not_mem_nil, or_false] at hu
  rcases hu with rfl | rfl | ⟨b, _, rfl⟩ | rfl <;> rfl
end Go.Inbox

/- The inbox's messages, block by block and item by item. -/
namespace Go.Inbox
open Go.Note (Z)
theorem memD {α : Type} {l : List α} {k : Nat} (d : α) (h : k < l.length) : l.getD k d ∈ l := by
  rw [Oct.getD_eq d h]
  exact List.getElem_mem h
/-! ### Calls -/
end Go.Inbox

/- What the inbox must give at any rate, as cells. -/
namespace Go.Inbox
open Go.Sx
open Go.Note (Z I64)
theorem bc_one (x : BA) : bc [x] = BA.cells x := by simp [bc]
/-- What a call names. -/
structure Q where
  n : Int
  t : Int
  wt : Int
def Q.cells (q : Q) : List Value := [Sx.i64 q.n, Sx.i64 q.t, Sx.i64 q.wt]
end Go.Inbox

/- Own words: the first blocks of a list, the first entries, worlds that grow. -/
namespace Go.Inbox
open Go.Sx
open Go.Note (Z I64)
theorem BA.Wf.frm {S : List Nat} {w0 w : World} {x : BA} (h : BA.Wf w0 x) (k : Frm S w0 w) (hS : ∀ ad, x.A = some ad → ad.block ∉ S) : BA.Wf w x := { h with rd := h.rd.frm k hS }
theorem flat_pre {α : Type} {f : α → List Value} {z : Nat} : ∀ (l : List α) (k : Nat), (∀ x ∈ l, (f x).length = z) → ((l.take k).map f).flatten = ((l.map f).flatten).take (k * z)
  | [], k, _ => by simp
  | x :: l, 0, _ => by simp
  | x :: l, k + 1, h => by
    have h1 := flat_pre l k (fun y hy => h y (List.mem_cons_of_mem _ hy))
    have h2 := h x List.mem_cons_self
    simp only [List.take_succ_cons, List.map_cons, List.flatten_cons, h1]
    rw [List.take_append, h2, List.take_of_length_le (l := f x) (by rw [h2, Nat.succ_mul]; omega), show (k + 1) * z - z = k * z by rw [Nat.succ_mul]; omega]
theorem bc_append (l m : List BA) : bc (l ++ m) = bc l ++ bc m := by simp [bc]
end Go.Inbox

/- Own words: functions as values; calls that are given several items. -/
set_option linter.unusedVariables false
set_option linter.unusedSimpArgs false
namespace Go.Sx
open Go.RowKit
variable {P : Program} {n : Nat} {S : List Nat} {w0 w : World} {ss : List (Nat × Value)} {l : List It} {o : Oper} {a : Act}
variable {ops : Array Oper} {Q : Exit → Act → World → Prop} {rest : List Oper}
/-- A function value with what it holds. -/
theorem y_fn {f : Fn} {xs ys : List Operand} {us vs : List Value} (ho : o.op = .makeFunc f xs.toArray ys.toArray) (hx : evs ss xs = some us) (hy : evs ss ys = some vs) : Yld P n S w0 ss l o (.func f us.toArray vs.toArray) := by
  intro a w F _
  have h1 := evs_map F hx
  have h2 := evs_map F hy
  simp [execOp, ho, Instr.makeFunc, List.map_toArray, h1, h2]
theorem y_max2 {x y : Operand} {t u : TypeId} {k : IntKind} {p q : Int} (ho : o.op = .call { callee := .builtin .max, args := #[x, y], argTypes := #[t, u] }) (hx : evO ss x = some (.int k p)) (hy : evO ss y = some (.int k q)) : Yld P n S w0 ss l o (.int k (max p q)) := by
  intro a w F _
  have e : (if p < q then q else p) = max p q := by split <;> omega
  simp [execOp, ho, F.ev hx, F.ev hy, resolve, invoke, builtin, Builtin.max_, Builtin.max2, e]
/-- A call that runs a function of the program on arguments. -/
def Enters (P : Program) (n : Nat) (ss : List (Nat × Value)) (o : Oper) (f : FuncId) (args : List Value) : Prop := ∀ a w, Fr n ss a → (execOp a.eval o).run P w = .ok (.enter f args.toArray) w
theorem enters_call {f : FuncId} {xs : List Operand} {ts : Array TypeId} {args : List Value} (ho : o.op = .call { callee := .value (.func f), args := xs.toArray, argTypes := ts }) (hc : callB P f = true) (ha : evs ss xs = some args) : Enters P n ss o f args :=
  fun _ _ F => run_call ho hc F ha
/-- One item of several. -/
inductive Pick : List It → It → List It → Prop
  | head (i : It) (l : List It) : Pick (i :: l) i l
  | tail (x : It) {i : It} {l r : List It} : Pick l i r → Pick (x :: l) i (x :: r)
theorem Pick.perm {l r : List It} {i : It} (h : Pick l i r) : l.Perm (i :: r) := by
  induction h with
  | head i l => exact .refl _
  | tail x h ih => exact (ih.cons x).trans (.swap _ _ _)
theorem Ph {i : It} {l : List It} : Pick (i :: l) i l := .head i l
theorem Pt {x i : It} {l r : List It} (h : Pick l i r) : Pick (x :: l) i (x :: r) := .tail x h
inductive Picks : List It → List It → List It → Prop
  | nil (l : List It) : Picks l [] l
  | cons {l m r is : List It} {i : It} : Pick l i m → Picks m is r → Picks l (i :: is) r
theorem Picks.perm {l r is : List It} (h : Picks l is r) : l.Perm (is ++ r) := by
  induction h with
  | nil l => exact .refl _
  | cons h _ ih => exact h.perm.trans (ih.cons _)
def fps (l : List It) : List Nat := l.flatMap It.fp
theorem mem_fps {l : List It} {b : Nat} (h : b ∈ fps l) : ∃ i ∈ l, b ∈ i.fp := List.mem_flatMap.1 h
/-- A call that is given some items, and leaves others. -/
theorem st_callk {d : Nat} {f : FuncId} {args : List Value} {is lr : List It} {Φ : Value → List It → Prop} (he : Enters P n ss o f args) (hw : wantB ops ss o = some true) (hd : o.dst = some d) (hn : Nat.ble (d + 1) n = true) (H : St n S w0 ss l a w)
    (hp : Picks l is lr) (hk : Calls P f args.toArray w (Post (fps is) w Φ)) (K : ∀ v l' a' w', Φ v l' → St n S w0 ((d, v) :: ss) (l' ++ lr) a' w' → wpList P ops Q rest a' w') : wpList P ops Q (o :: rest) a w :=
  st_enter (lT := is) (he a w H.fr) hw hd hn ⟨H.fr, H.sep.perm hp.perm.symm⟩ (fun b hb => mem_fps hb) hk K
/-- What a call is given stands by itself. -/
theorem Sep.given {is lr : List It} (H : Sep S w0 w l) (hp : Picks l is lr) : Sep (fps is) w w is := by
  have h := (H.perm hp.perm.symm)
  refine ⟨Frm.refl _ _, fun i hi => h.all i (List.mem_append_left _ hi), fun i hi b hb => .inl (List.mem_flatMap.2 ⟨i, hi, hb⟩), (List.pairwise_append.1 h.dis).1⟩
theorem fps_new {is lr : List It} {T : List (BitVec 32)} {g : Nat} (H : Sep [] w0 w l) (hp : Picks l is lr) (hG : Glob g T w0) (hT : 0 < T.length) : g ∉ fps is := fun hm => by
  have h := (H.perm hp.perm.symm)
  obtain ⟨i, hi, hb⟩ := mem_fps hm
  have h1 := World.block_lt_of_cell? w0 _ (hG 0 hT)
  rcases h.own i (List.mem_append_left _ hi) g hb with h2 | h2
  · cases h2
  · have h1 : g < w0.heap.size := h1
    omega
end Go.Sx

/- Own words: maps with integer keys that a call owns. -/
set_option linter.unusedVariables false
set_option linter.unusedSimpArgs false
namespace Go.Sx
open Go.RowKit
/-- What a list of entries holds at a key. -/
def mf : List MapEntry → Int → Option Value
  | [], _ => none
  | e :: es, k => match e.key with
    | .int .i64 a => if a = k then some e.val else mf es k
    | _ => mf es k
structure MapOk (es : List MapEntry) (clock : Nat) (f : Int → Option Value) : Prop where
  keys : ∀ e ∈ es, ∃ a, e.key = .int .i64 a
  apart : es.Pairwise fun x y => x.key ≠ y.key
  at_ : ∀ k, mf es k = f k
  old : ∀ e ∈ es, e.born < clock
  born : es.Pairwise fun x y => x.born ≠ y.born
theorem mf_none {es : List MapEntry} {k : Int} (h : mf es k = none) : ∀ e ∈ es, e.key ≠ .int .i64 k := by
  induction es with
  | nil => intro e he; cases he
  | cons x es ih =>
    intro e he hk
    simp only [mf] at h
    rcases List.mem_cons.1 he with rfl | he
    · rw [hk] at h; simp at h
    · refine ih ?_ e he hk
      split at h
      · split at h
        · simp at h
        · exact h
      · exact h
theorem mf_append (es : List MapEntry) (x : MapEntry) (k a : Int) (hk : ∀ e ∈ es, ∃ a, e.key = .int .i64 a) (hx : x.key = .int .i64 a) (h : mf es a = none) : mf (es ++ [x]) k = if k = a then some x.val else mf es k := by
  induction es with
  | nil =>
    simp only [List.nil_append, mf, hx]
    by_cases hak : a = k
    · subst hak; simp
    · rw [if_neg hak, if_neg (fun e => hak e.symm)]
  | cons y es ih =>
    obtain ⟨b, hb⟩ := hk y List.mem_cons_self
    simp only [List.cons_append, mf, hb] at h ⊢
    split at h
    · simp at h
    · rename_i hba
      have ih' := ih (fun e he => hk e (List.mem_cons_of_mem _ he)) h
      by_cases hbk : b = k
      · subst hbk
        rw [if_pos rfl, if_pos rfl, if_neg hba]
      · rw [if_neg hbk, if_neg hbk]
        exact ih'
/-- A map with one key set. -/
def mset (f : Int → Option Value) (k : Int) (v : Value) : Int → Option Value := fun a => if a = k then some v else f a
theorem MapOk.push {es : List MapEntry} {clock : Nat} {f : Int → Option Value} (h : MapOk es clock f) {k : Int} {u : Value} (hn : f k = none) : MapOk (es ++ [⟨.int .i64 k, u, clock⟩]) (clock + 1) (mset f k u) where
  keys := fun x hx => by
    rcases List.mem_append.1 hx with hx | hx
    · exact h.keys x hx
    · rw [List.mem_singleton.1 hx]; exact ⟨k, rfl⟩
  apart := by
    refine List.pairwise_append.2 ⟨h.apart, List.pairwise_singleton _ _, fun x hx y hy => ?_⟩
    rw [List.mem_singleton.1 hy]
    exact mf_none (by rw [h.at_, hn]) x hx
  at_ := fun a => by rw [mf_append _ _ _ k h.keys rfl (by rw [h.at_, hn]), h.at_]; rfl
  old := fun x hx => by
    rcases List.mem_append.1 hx with hx | hx
    · have := h.old x hx; omega
    · rw [List.mem_singleton.1 hx]; exact Nat.lt_succ_self _
  born := by
    refine List.pairwise_append.2 ⟨h.born, List.pairwise_singleton _ _, fun x hx y hy => ?_⟩
    rw [List.mem_singleton.1 hy]
    have := h.old x hx
    show x.born ≠ clock
    omega
/-! ### Items -/
def putObj (w : World) (g : Nat) (o : Obj) : World := { w with heap := w.heap.setIfInBounds g o }
section
variable {P : Program} {n : Nat} {S : List Nat} {w0 : World} {ss : List (Nat × Value)} {l : List It} {o : Oper}
variable {ops : Array Oper} {rest : List Oper} {Q : Exit → Act → World → Prop} {a : Act} {w : World}
/-- A call that is given some items, which stand by themselves. -/
theorem st_callk2 {d : Nat} {f : FuncId} {args : List Value} {is lr : List It} {Φ : Value → List It → Prop} (he : Enters P n ss o f args) (hw : wantB ops ss o = some true) (hd : o.dst = some d) (hn : Nat.ble (d + 1) n = true) (H : St n S w0 ss l a w)
    (hp : Picks l is lr) (hk : Sep (fps is) w w is → Calls P f args.toArray w (Post (fps is) w Φ)) (K : ∀ v l' a' w', Φ v l' → St n S w0 ((d, v) :: ss) (l' ++ lr) a' w' → wpList P ops Q rest a' w') : wpList P ops Q (o :: rest) a w :=
  st_callk he hw hd hn H hp (hk (Sep.given H.sep hp)) K
end
end Go.Sx

/- Own words: whole numbers as floats of 64 bits, and their order. -/
set_option linter.unusedVariables false
set_option linter.unusedSimpArgs false
namespace Go.Sx
open Go.RowKit
open Ieee (Toward Format Datum)
section
variable {P : Program} {n : Nat} {S : List Nat} {w0 : World} {ss : List (Nat × Value)} {l : List It} {o : Oper}
variable {w : World} {a : Act}
end
section
variable {P : Program} {rl : List Oper} {Q : Exit → Act → World → Prop} {fuel : Nat} {listed : Array Bool} {a : Act} {w : World} {o o' : Oper}
def fourB (rl : List Oper) (listed : Array Bool) (i j k m : Nat) : Bool := Region.ready .any rl.toArray listed == [i, j, k, m]
theorem hgo4 {T : World → Prop} {o2 o3 : Oper} (i j k q : Nat) (hi : rl[i]? = some o) (hj : rl[j]? = some o') (hk : rl[k]? = some o2) (hq : rl[q]? = some o3) (hB : fourB rl listed i j k q = true) (h : wpList P rl.toArray (HQ P rl Q T fuel (listed.setIfInBounds i true)) [o] a w) (h' : wpList P rl.toArray (HQ P rl Q T fuel (listed.setIfInBounds j true)) [o'] a w)
    (h2 : wpList P rl.toArray (HQ P rl Q T fuel (listed.setIfInBounds k true)) [o2] a w) (h3 : wpList P rl.toArray (HQ P rl Q T fuel (listed.setIfInBounds q true)) [o3] a w) :
    wpAnyH P .any rl.toArray (NoPanic Q) T (fuel + 1) listed a w := by
  have hB' : Region.ready .any rl.toArray listed = [i, j, k, q] := by simpa [fourB] using hB
  refine wpAnyH_all hB' (by simp) fun m hm => ?_
  simp only [List.mem_cons, List.not_mem_nil, or_false] at hm
  rcases hm with rfl | rfl | rfl | rfl
  · exact wpOp_of_list _ hi h
  · exact wpOp_of_list _ hj h'
  · exact wpOp_of_list _ hk h2
  · exact wpOp_of_list _ hq h3
end
end Go.Sx

/- Own words: items chosen out of what is given, in any order. -/
set_option linter.unusedVariables false
set_option linter.unusedSimpArgs false
namespace Go.Sx
open Go.RowKit
variable {P : Program} {n : Nat} {S : List Nat} {w0 w : World} {ss : List (Nat × Value)} {l : List It} {a : Act}
theorem Sep.these {is lr : List It} (H : Sep S w0 w l) (hp : Picks l is lr) : Sep S w0 w is := (H.perm hp.perm.symm).sub (List.sublist_append_left _ _)
theorem St.only {is lr : List It} (H : St n S w0 ss l a w) (hp : Picks l is lr) : St n S w0 ss is a w := ⟨H.fr, H.sep.these hp⟩
theorem St.front {is lr : List It} (H : St n S w0 ss l a w) (hp : Picks l is lr) : St n S w0 ss (is ++ lr) a w := ⟨H.fr, H.sep.perm hp.perm.symm⟩
theorem run_cct {fn : Func} {t ty b z t2 ty2 b2 z2 s : Nat} {E E2 : TypeId} {cs cs2 : List Value} {x : Value} (hr : fn.results = #[.cell t ty, .cell t2 ty2, .tmp s]) (H : St n S w0 ss l a w) (hv : find ss t = some (.pointer (some ⟨b, 0, none⟩))) (ht : aggB P ty = some true) (hz : sizeB P ty = some z) (hm : It.blk b E cs ∈ l) (hl : cs.length = z)
    (hv2 : find ss t2 = some (.pointer (some ⟨b2, 0, none⟩))) (ht2 : aggB P ty2 = some true) (hz2 : sizeB P ty2 = some z2) (hm2 : It.blk b2 E2 cs2 ∈ l) (hl2 : cs2.length = z2) (hs : find ss s = some x) :
    (results fn a.tmps).run P w = .ok (.tuple #[.agg cs.toArray, .agg cs2.toArray, x]) w := by
  have h1 : a.tmps[t]?.getD undef = .pointer (some ⟨b, 0, none⟩) := by simpa [Array.getD_eq_getD_getElem?] using getD_of H.fr hv
  have h3 : a.tmps[t2]?.getD undef = .pointer (some ⟨b2, 0, none⟩) := by simpa [Array.getD_eq_getD_getElem?] using getD_of H.fr hv2
  have h4 : a.tmps[s]?.getD undef = x := by simpa [Array.getD_eq_getD_getElem?] using getD_of H.fr hs
  have h2 : Rd w (some ⟨b, 0, none⟩) cs := by
    have := Rd.blk (blk_at hm H.sep) 0 cs.length
    simpa using this
  have h5 : Rd w (some ⟨b2, 0, none⟩) cs2 := by
    have := Rd.blk (blk_at hm2 H.sep) 0 cs2.length
    simpa using this
  subst hl hl2
  simp [results, hr, h1, h3, h4, loadVar, run_isAgg' ht, run_sizeOf' hz, run_isAgg' ht2, run_sizeOf' hz2, h2.load, h5.load, asAddr]
theorem retcct {fn : Func} {R : Ending → World → Prop} {t ty b z t2 ty2 b2 z2 s : Nat} {E E2 : TypeId} {cs cs2 : List Value} {x : Value} (hr : fn.results = #[.cell t ty, .cell t2 ty2, .tmp s]) (H : St n S w0 ss l a w) (hv : find ss t = some (.pointer (some ⟨b, 0, none⟩))) (ht : aggB P ty = some true) (hz : sizeB P ty = some z) (hm : It.blk b E cs ∈ l) (hl : cs.length = z)
    (hv2 : find ss t2 = some (.pointer (some ⟨b2, 0, none⟩))) (ht2 : aggB P ty2 = some true) (hz2 : sizeB P ty2 = some z2) (hm2 : It.blk b2 E2 cs2 ∈ l) (hl2 : cs2.length = z2) (hs : find ss s = some x) (h : R (.returned (.tuple #[.agg cs.toArray, .agg cs2.toArray, x])) w) : bodyPost P fn R .ret a w :=
  bodyPost_ret (run_cct hr H hv ht hz hm hl hv2 ht2 hz2 hm2 hl2 hs) H.fr.df h
end Go.Sx

/- Chains of blocks as cells. -/
namespace Go.Tree
open Go.Sx
open Go.Note (Z I64)
open Go.Inbox (BA Block ic bc flat_lenM flat_takeM flat_getM flat_pre memD)
/-- A block whose cells are what they should be. -/
structure W0 (x : BA) : Prop where
  number : I64 x.b.number
  salt : I64 x.b.salt
  parent : x.b.parent.length = 32
  items : ∀ i ∈ x.b.items, Note.Item.Wf i
  bytes : x.b.items.length * 40 ≤ 140737488355328
abbrev Wfs (X : List BA) : Prop := ∀ x ∈ X, W0 x
theorem bc_append (X Y : List BA) : bc (X ++ Y) = bc X ++ bc Y := by simp [bc]
theorem bc_one (x : BA) : bc [x] = BA.cells x := by simp [bc]
theorem ba_cell (x : BA) : ∀ u ∈ BA.cells x, u.oneCell' = true := by
  rw [← bc_one]
  exact Inbox.bc_cell _
theorem Wfs.at_ {X : List BA} (h : Wfs X) {k : Nat} (hk : k < X.length) : W0 (X.getD k BA.zero) := h _ (memD _ hk)
theorem Wfs.take {X : List BA} (h : Wfs X) (k : Nat) : Wfs (X.take k) := fun x hx => h x (List.mem_of_mem_take hx)
theorem Wfs.app {X Y : List BA} (h : Wfs X) (g : Wfs Y) : Wfs (X ++ Y) := fun x hx => by
  rcases List.mem_append.1 hx with hx | hx
  · exact h x hx
  · exact g x hx
theorem Wfs.one {x : BA} (h : W0 x) : Wfs [x] := fun y hy => by rw [List.mem_singleton.1 hy]; exact h
theorem w0_zero : W0 BA.zero := ⟨⟨by decide, by decide⟩, ⟨by decide, by decide⟩, rfl, fun i hi => absurd hi (by simp [BA.zero]), by simp [BA.zero]⟩
theorem W0.len {x : BA} (h : W0 x) : (BA.cells x).length = 35 := BA.cells_len h.parent
/-! ### Items that nobody writes any more -/
def fzb (x : BA) : List Nat := if x.b.items = [] then [] else match x.A with
  | some ad => [ad.block]
  | none => []
theorem fzb_rd {w w' : World} {x : BA} (h : ∀ b ∈ fzb x, w'.heap[b]? = w.heap[b]?) (hR : Rd w x.A (ic x.b.items)) : Rd w' x.A (ic x.b.items) := by
  by_cases h0 : x.b.items = []
  · rw [h0]; exact .inl rfl
  · rcases hR with hR | ⟨ad, e, hR⟩
    · exact .inl hR
    · refine .inr ⟨ad, e, fun j v hv => ?_⟩
      have hc := hR j v hv
      have hb : (ad.add j).block = ad.block := by unfold Addr.add; split <;> rfl
      have hq := h ad.block (by unfold fzb; rw [if_neg h0, e]; simp)
      rw [← hc]
      unfold World.cell?
      rw [hb, hq]
theorem fzb_lt {w : World} {x : BA} (hR : Rd w x.A (ic x.b.items)) : ∀ b ∈ fzb x, b < w.heap.size := by
  intro b hb
  unfold fzb at hb
  split at hb
  · cases hb
  · rename_i h0
    rcases hR with hR | ⟨ad, e, hR⟩
    · exfalso
      have : (ic x.b.items).length = 0 := by rw [hR]; rfl
      rw [Inbox.ic_len] at this
      exact h0 (List.length_eq_zero_iff.1 (by omega))
    · rw [e] at hb
      have : b = ad.block := by simpa using hb
      subst this
      have hl : 0 < (ic x.b.items).length := by
        rw [Inbox.ic_len]
        have := List.length_pos_iff.2 h0
        omega
      have hc := hR 0 _ (List.getElem?_eq_getElem hl)
      have hb : (ad.add 0).block = ad.block := by unfold Addr.add; split <;> rfl
      have hlt := World.block_lt_of_cell? _ _ hc
      rwa [hb] at hlt
def It.fz (X : List BA) : It where
  fp := X.flatMap fzb
  P := fun w => ∀ x ∈ X, Rd w x.A (ic x.b.items)
  st := fun w w' h hp x hx => fzb_rd (fun b hb => h b (List.mem_flatMap.2 ⟨x, hx, hb⟩)) (hp x hx)
  lt := fun w hp b hb => by
    obtain ⟨x, hx, hb⟩ := List.mem_flatMap.1 hb
    exact fzb_lt (hp x hx) b hb
section
variable {n : Nat} {S : List Nat} {w0 w : World} {ss : List (Nat × Value)} {l : List It} {a : Go.Act}
theorem Sep.freeze {E : TypeId} {X : List BA} {x : BA} {c m : Nat} (h : Sep S w0 w (It.row E 4 (.slice x.A m c) m (ic x.b.items) :: It.fz X :: l)) : Sep S w0 w (It.fz (X ++ [x]) :: l) := by
  have hr := h.all _ List.mem_cons_self
  have hf := h.all _ (List.mem_cons_of_mem _ List.mem_cons_self)
  have hfp : ∀ b ∈ (It.fz (X ++ [x])).fp, b ∈ (It.row E 4 (.slice x.A m c) m (ic x.b.items)).fp ∨ b ∈ (It.fz X).fp := by
    intro b hb
    obtain ⟨y, hy, hb⟩ := List.mem_flatMap.1 hb
    rcases List.mem_append.1 hy with hy | hy
    · exact .inr (List.mem_flatMap.2 ⟨y, hy, hb⟩)
    · rw [List.mem_singleton.1 hy] at hb
      left
      unfold fzb at hb
      split at hb
      · cases hb
      · cases hA : x.A with
        | none => rw [hA] at hb; cases hb
        | some ad => rw [hA] at hb; simpa [It.row, Value.ownBlock, hA] using hb
  have hd := List.pairwise_cons.1 h.dis
  have hd2 := List.pairwise_cons.1 hd.2
  refine ⟨h.frm, fun i hi => ?_, fun i hi b hb => ?_, List.pairwise_cons.2 ⟨fun j hj b hb hbj => ?_, hd2.2⟩⟩
  · rcases List.mem_cons.1 hi with rfl | hi
    · intro y hy
      rcases List.mem_append.1 hy with hy | hy
      · exact hf y hy
      · rw [List.mem_singleton.1 hy]
        obtain ⟨A', c', e, hR, _⟩ := Row.rd hr
        injection e with e1
        rw [e1]
        exact hR
    · exact h.all i (List.mem_cons_of_mem _ (List.mem_cons_of_mem _ hi))
  · rcases List.mem_cons.1 hi with rfl | hi
    · rcases hfp b hb with hb | hb
      · exact h.own _ List.mem_cons_self b hb
      · exact h.own _ (List.mem_cons_of_mem _ List.mem_cons_self) b hb
    · exact h.own i (List.mem_cons_of_mem _ (List.mem_cons_of_mem _ hi)) b hb
  · rcases hfp b hb with hb | hb
    · exact hd.1 j (List.mem_cons_of_mem _ hj) b hb hbj
    · exact hd2.1 j hj b hb hbj
theorem St.freeze {E : TypeId} {X : List BA} {x : BA} {c m : Nat} (h : St n S w0 ss (It.row E 4 (.slice x.A m c) m (ic x.b.items) :: It.fz X :: l) a w) : St n S w0 ss (It.fz (X ++ [x]) :: l) a w := ⟨h.fr, Sep.freeze h.sep⟩
end
/-! ### The items of a block -/
def itexts (l : List Note.Item) (k : Nat) : List (List UInt8) := (l.take k).map fun i => (Note.writeItem i).1
theorem itexts_next {l : List Note.Item} {k : Nat} (h : k < l.length) : itexts l (k + 1) = itexts l k ++ [(Note.writeItem (l.getD k Note.Item.zero)).1] := by
  unfold itexts
  rw [Oct.take_succ Note.Item.zero h, List.map_append]
  rfl
theorem itexts_len {l : List Note.Item} {k : Nat} (h : k ≤ l.length) : (itexts l k).length = k := by
  unfold itexts
  rw [List.length_map, List.length_take]
  omega
def head3 (b : Block) : List (List UInt8) := [Note.num b.number, Note.num b.salt, b.parent]
theorem texts_is (b : Block) : texts b = head3 b ++ itexts b.items b.items.length := by
  unfold texts head3 itexts
  rw [List.take_length]
  rfl
theorem items_ok {l : List Note.Item} (h : ∀ j, j < l.length → (Note.writeItem (l.getD j Note.Item.zero)).2 = 0) : l.all Note.Item.ok = true := by
  rw [List.all_eq_true]
  intro i hi
  obtain ⟨j, hj, rfl⟩ := List.getElem_of_mem hi
  have := h j hj
  rw [Oct.getD_eq _ hj] at this
  exact (Inbox.write_ok _).1 this
theorem zero_of {b : Block} {k : Nat} (hk : k < b.items.length) (h : b.items.getD k Note.Item.zero = Note.Item.zero) : hash b = (Z, 2) := hash_at hk (by rw [h]; exact zero_bad)
end Go.Tree

/- Chains of blocks, call by call. -/
namespace Go.Tree
open Go.Sx
open Go.Note (Z I64)
open Go.Inbox (BA Block ic bc flat_lenM flat_takeM flat_getM flat_pre memD)
theorem ic_cell (l : List Note.Item) : ∀ u ∈ ic l, u.oneCell' = true := by
  intro u hu
  simp only [ic, List.mem_flatten, List.mem_map] at hu
  obtain ⟨_, ⟨e, _, rfl⟩, hu⟩ := hu
  simp only [Note.Item.cells, List.mem_cons, List.not_mem_nil, or_false] at hu
  rcases hu with rfl | rfl | rfl | rfl <;> rfl
def bl (X : List BA) : List Block := X.map (·.b)
theorem bl_len (X : List BA) : (bl X).length = X.length := by simp [bl]
theorem bl_app (X Y : List BA) : bl (X ++ Y) = bl X ++ bl Y := by simp [bl]
theorem hashes_h (L : List Block) : H32 (hashes L) := hashes_each L
theorem hs_at {L : List Block} {k : Nat} (h : k < L.length) : (hashes L).getD k [] = (hash (L.getD k Block.zero)).1 := by
  simp [hashes, List.getD_eq_getElem?_getD, h]
theorem last_at {X : List BA} (h : 0 < X.length) : (hashes (bl X)).getD (X.length - 1) [] = (hash (last (bl X))).1 := by
  rw [hs_at (by rw [bl_len]; omega)]
  unfold last
  rw [bl_len]
theorem hc_hs (X : List BA) : (hc (hashes (bl X))).length = X.length * 32 := by rw [hc_len (hashes_h _), hashes_len, bl_len]
theorem hs_one (X : List BA) (x : BA) : hashes (bl (X ++ [x])) = hashes (bl X) ++ [(hash x.b).1] := by rw [bl_app]; exact hashes_snoc _ _
/-- Nothing is told of the memory but what is read. -/
def Keeps (I : List It) (w : World) (A : Option Addr) (cs : List Value) : Prop := ∀ w', Frm (fps I) w w' → Rd w' A cs
theorem Keeps.rd {I : List It} {w : World} {A : Option Addr} {cs : List Value} (h : Keeps I w A cs) : Rd w A cs := h w (Frm.refl _ _)
theorem Keeps.at_ {I l : List It} {w w' : World} {A : Option Addr} {cs : List Value} (h : Keeps I w A cs) (hs : Sep (fps I) w w' l) : Rd w' A cs := h w' hs.frm
/-! ### Mine -/
theorem mine_full {c : Chain} {its : List Note.Item} {salt : Int} (h : 4096 ≤ c.height) : mine c its salt = (c, Z, 25) := if_pos h
theorem mine_bad {c : Chain} {its : List Note.Item} {salt : Int} (h : ¬ 4096 ≤ c.height) (h1 : (hash (behind c.L its salt)).2 ≠ 0) : mine c its salt = (c, Z, (hash (behind c.L its salt)).2) := by
  have e := grow_bad h1
  unfold mine
  rw [if_neg h, e, if_pos h1]
theorem mine_good {c : Chain} {its : List Note.Item} {salt : Int} (h : ¬ 4096 ≤ c.height) (h1 : (hash (behind c.L its salt)).2 = 0) : mine c its salt = (⟨c.L ++ [behind c.L its salt], c.depth, c.deepest⟩, (hash (behind c.L its salt)).1, 0) := by
  have e := grow_ok h1
  unfold mine
  rw [if_neg h, e, if_neg (fun z => z rfl)]
/-- Items of an argument. -/
structure IA where
  l : List Note.Item
  A : Option Addr
  c : Nat
def IA.zero : IA := ⟨[], none, 0⟩
structure IA.Wf (q : IA) : Prop where
  items : ∀ i ∈ q.l, Note.Item.Wf i
  bytes : q.l.length * 40 ≤ 140737488355328
def iac (bs : List IA) : List Value := bs.map fun q => .slice q.A q.l.length q.c
/-! ### Turn -/
end Go.Tree
namespace Go.Tree
open Go.Sx
open Go.Inbox (BA ic)
theorem St.addFz1 {n : Nat} {S : List Nat} {w0 w : World} {ss : List (Nat × Value)} {l : List It} {a : Go.Act} (h : St n S w0 ss l a w) : St n S w0 ss (It.fz [BA.zero] :: l) a w :=
  ⟨h.fr, h.sep.add (Frm.refl _ _) (fun x hx => by rw [List.mem_singleton.1 hx]; exact .inl rfl) (by simp [It.fz, fzb, BA.zero])⟩
end Go.Tree
namespace Go.Tree
open Go.Sx
open Go.Note (Z I64)
open Go.Inbox (BA Block ic bc flat_lenM flat_takeM flat_getM flat_pre memD)
/-- A turn, so far: what stays, and what is new. -/
structure Far (L : List Block) (salt : Int) (bs : List (List Note.Item)) (k : Nat) (Y : List BA) : Prop where
  is : bl Y = (grows L salt (bs.take k)).1
  ok : (grows L salt (bs.take k)).2 = 0
end Go.Tree
namespace Go.Tree
open Go.Sx
open Go.Note (Z I64)
open Go.Inbox (BA Block ic bc flat_lenM flat_takeM flat_getM flat_pre memD)
/-! ### The reference: blocks whose items lie in what was handed in -/
def ofIA (L : List Block) (q : IA) (salt : Int) : BA := ⟨behind L q.l salt, q.A, q.c⟩
/-- All of a list's blocks have their items where they were, or from what is handed in. -/
def From (Q : BA → Prop) (q : IA) : Prop := ∀ L salt, Q (ofIA L q salt)
end Go.Tree
namespace Go.Tree
end Go.Tree
namespace Go.Tree
open Go.Sx
open Go.Inbox (BA ic bc)
end Go.Tree

/- What the tree must give at any rate. -/
namespace Go.Tree
open Go.Note (Z num)
open Go.Inbox (Block BA)
open Go.Note
def aw0 : List UInt8 := [88, 243, 169, 135, 250, 4, 5, 110, 26, 62, 3, 167, 34, 0, 3, 112, 26, 205, 46, 32, 86, 34, 235, 212, 242, 249, 119, 172, 50, 1, 168, 231]
theorem bare_ok {n : Int} {p : List UInt8} (hp : p.length = 32) (h : 0 ≤ n ∧ n ≤ 1099511627776) : (hash ⟨n, 0, p, []⟩).2 = 0 ∧ (hash ⟨n, 0, p, []⟩).1 = Sha.sum (Oct.list (texts ⟨n, 0, p, []⟩)).1 := by
  have h1 : (Oct.list (texts ⟨n, 0, p, []⟩)).2 = 0 := by
    refine list_small (by simp [texts]) ?_
    have h0 := num_len (n := 0) (by omega)
    have h2 := num_len (n := n) (by omega)
    simp only [texts, List.map_nil, List.flatten_cons, List.flatten_nil, List.length_append, List.length_nil]
    omega
  rw [hash_fine (by rw [okBlock_is]; exact ⟨h, ⟨by dsimp only; omega, by dsimp only; omega⟩, Nat.zero_le _⟩) rfl h1]
  exact ⟨rfl, rfl⟩
theorem aw_z : (hash Block.zero).1 = aw0 := by
  have h := (bare_ok (n := 0) (p := Z) Note.Z_len (by omega)).2
  rw [show Block.zero = ⟨0, 0, Z, []⟩ from rfl, h]
  have e : (Oct.list (texts ⟨0, 0, Z, []⟩)).1 = Sha.tz0T := by
    rw [Oct.list_ok (by simp [texts]) (by simp only [texts, List.map_nil]; rw [Note.num0]; decide)]
    unfold texts Oct.listL Oct.textL
    simp only [List.map_cons, List.map_nil, List.length_cons, List.length_nil, List.flatten_cons, List.flatten_nil, Note.num0]
    rw [show Z.length = 32 from Note.Z_len, Note.numL_small (by omega) (by omega), Note.numL_small (by omega) (by omega), Note.numL_small (by omega) (by omega)]
    decide
  rw [e, Sha.sum_tz0]
  rfl
theorem aw_b : (hash ⟨1, 0, aw0, []⟩).1 ≠ aw0 := by
  have h := (bare_ok (n := 1) (p := aw0) (by decide) (by omega)).2
  rw [h]
  have e : (Oct.list (texts ⟨1, 0, aw0, []⟩)).1 = Sha.tz1T := by
    rw [Oct.list_ok (by simp [texts]) (by simp only [texts, List.map_nil]; rw [Note.num0, Note.num1]; decide)]
    unfold texts Oct.listL Oct.textL
    simp only [List.map_cons, List.map_nil, List.length_cons, List.length_nil, List.flatten_cons, List.flatten_nil, Note.num0, Note.num1]
    rw [show aw0.length = 32 by decide, Note.numL_small (by omega) (by omega), Note.numL_small (by omega) (by omega), Note.numL_small (by omega) (by omega), Note.numL_small (by omega) (by omega)]
    decide
  rw [e, Sha.sum_tz1]
  intro h
  have h1 := congrArg (fun l => l.getD 0 0) h
  revert h1
  decide
def awB1 : Block := ⟨1, 0, aw0, []⟩
def awB2 : Block := ⟨2, 0, (hash awB1).1, []⟩
theorem aw_bh1 : behind [Block.zero] [] 0 = awB1 := by
  show (⟨1, 0, (hash Block.zero).1, []⟩ : Block) = _
  rw [aw_z]; rfl
theorem aw_bh2 : behind [Block.zero, awB1] [] 0 = awB2 := rfl
theorem aw_ok1 : (hash awB1).2 = 0 := (bare_ok (by decide) (by omega)).1
theorem aw_ok2 : (hash awB2).2 = 0 := (bare_ok (hash_len _) (by omega)).1
theorem aw_m1 (dp de : Int) : mine ⟨[Block.zero], dp, de⟩ [] 0 = (⟨[Block.zero, awB1], dp, de⟩, (hash awB1).1, 0) := by
  rw [mine_good (by show ¬ 4096 ≤ (1 : Int) - 1; omega) (by rw [aw_bh1]; exact aw_ok1), aw_bh1]; rfl
theorem aw_m2 (dp de : Int) : mine ⟨[Block.zero, awB1], dp, de⟩ [] 0 = (⟨[Block.zero, awB1, awB2], dp, de⟩, (hash awB2).1, 0) := by
  rw [mine_good (by show ¬ 4096 ≤ (2 : Int) - 1; omega) (by rw [aw_bh2]; exact aw_ok2), aw_bh2]; rfl
theorem aw_find : find (hashes [Block.zero, awB1, awB2]) (hash awB1).1 = (1, true) := by
  refine find_at (k := 1) (by simp [hashes]) rfl (fun j hj => ?_)
  have : j = 0 := by omega
  subst this
  show (hash Block.zero).1 ≠ _
  rw [aw_z]
  exact fun h => aw_b h.symm
theorem aw_x1 {X : List BA} {dp : Int} (h : bl X = (mine ⟨bl [BA.zero], dp, 0⟩ [] 0).1.L) : bl X = [Block.zero, awB1] := by
  rw [h, show bl [BA.zero] = [Block.zero] from rfl, aw_m1]
theorem aw_mx1 (dp de : Int) : mine ⟨bl [BA.zero], dp, de⟩ [] 0 = (⟨[Block.zero, awB1], dp, de⟩, (hash awB1).1, 0) := aw_m1 dp de
theorem aw_x2 {X Y : List BA} {dp : Int} (h : bl X = [Block.zero, awB1]) (hY : bl Y = (mine ⟨bl X, dp, 0⟩ [] 0).1.L) : bl Y = [Block.zero, awB1, awB2] := by
  rw [hY, h, aw_m2]
theorem aw_l1 {X : List BA} (h : bl X = [Block.zero, awB1]) : X.length = 2 := by rw [← bl_len X, h]; rfl
theorem aw_l2 {X : List BA} (h : bl X = [Block.zero, awB1, awB2]) : X.length = 3 := by rw [← bl_len X, h]; rfl
theorem aw_fin {X : List BA} (h : bl X = [Block.zero, awB1, awB2]) : Chain.final ⟨bl X, 1, 0⟩ = 1 := by rw [h]; rfl
theorem aw_fd {X : List BA} (h : bl X = [Block.zero, awB1, awB2]) : find (hashes (bl X)) (hash awB1).1 = (1, true) := by rw [h]; exact aw_find
end Go.Tree

/- What a call of a chain is among the arguments. -/
namespace Go.Tree
open Go.Note (Z num)
open Go.Inbox (Block BA)
open Go.Sx
structure Act where
  kind : Int
  under : Int
  salt : Int
  bs : List IA
  D : Option Addr
  cd : Nat
def Act.zero : Act := ⟨0, 0, 0, [], none, 0⟩
def Act.cells (x : Act) : List Value := [i64 x.kind, i64 x.under, i64 x.salt, .slice x.D x.bs.length x.cd]
structure Act.Wf (W : World) (x : Act) : Prop where
  kind : Note.I64 x.kind
  under : Note.I64 x.under
  salt : Note.I64 x.salt
  ok : ∀ q ∈ x.bs, IA.Wf q
  rd : Rd W x.D (iac x.bs)
  rds : ∀ q ∈ x.bs, Rd W q.A (Inbox.ic q.l)
  len : x.bs.length ≤ 9223372036854775807
  cap : x.bs.length ≤ x.cd
theorem iac_flat (bs : List IA) : (bs.map fun q => [Value.slice q.A q.l.length q.c]).flatten = iac bs := by
  induction bs with
  | nil => rfl
  | cons q r ih => simp only [List.map_cons, List.flatten_cons, ih]; rfl
end Go.Tree

/- Own words: an effect in a drawn region, said shortly. -/
set_option linter.unusedVariables false
namespace Go.Sx
open Go.RowKit
variable {P : Program} {S : List Nat} {w0 w : World} {l ls : List It} {a : Act} {rl : List Oper} {Q : Exit → Act → World → Prop} {fuel : Nat} {listed : Array Bool}
theorem hfinA (H : Sep S w0 w l) (h : wpAnyH P .any rl.toArray (NoPanic Q) (fun w => Sep S w0 w ls) fuel listed a w) (hs : ls.Sublist l := by repeat (first | exact S1 | exact S0 | apply S2 | apply S3)) : wpList P rl.toArray (HQ P rl Q (fun w => Sep S w0 w ls) fuel listed) [] a w := hfin (H.sub hs) h
end Go.Sx
