/- Part of a proof about given Go functions: contracts of functions, or plain laws. -/
import Derived.Calls
import Derived.Tactics
import Derived.Deep.Quiet
import Derived.Below
import Derived.Laws.AppendOwn
import Derived.KernelRfl
import Derived.WalkKit
import Derived.Laws.StructEq
import Derived.Laws.Concat
import Derived.Laws.Cells
/- Own words for walks: what is known of a frame, and of the blocks that a call owns. -/
set_option linter.unusedVariables false
set_option linter.unusedSimpArgs false
namespace Go.Sx
open Go.RowKit

/-! ### Frames -/
def find : List (Nat × Value) → Nat → Option Value
  | [], _ => none
  | (k, v) :: l, t => bif Nat.beq k t then some v else find l t

def evO (ss : List (Nat × Value)) : Operand → Option Value
  | .tmp t => find ss t
  | .const v => some v
  | .global g => some (.pointer (some ⟨g, 0, none⟩))
  | .func f => some (.func (.func f) #[] #[])

structure Fr (n : Nat) (ss : List (Nat × Value)) (a : Act) : Prop where
  sz : a.tmps.size = n
  df : a.defers = []
  ok : ∀ t v, find ss t = some v → a.tmps[t]? = some v

theorem Fr.ev {n : Nat} {ss : List (Nat × Value)} {a : Act} (h : Fr n ss a) {x : Operand} {v : Value} (hx : evO ss x = some v) : a.eval x = v := by
  cases x with
  | tmp t =>
    have := h.ok t v hx
    simp [Act.eval, Array.getD_eq_getD_getElem?, this]
  | const c => simpa [evO, Act.eval] using hx
  | global g => simpa [evO, Act.eval] using hx
  | func f => simpa [evO, Act.eval] using hx

theorem Fr.put {n : Nat} {ss : List (Nat × Value)} {a : Act} (h : Fr n ss a) {d : Nat} (hd : d < n) (v : Value) : Fr n ((d, v) :: ss) (a.put (some d) v) := by
  refine ⟨by simpa [Act.put] using h.sz, by simpa [Act.put] using h.df, fun t u hu => ?_⟩
  simp only [find] at hu
  cases hb : Nat.beq d t with
  | true =>
    rw [hb] at hu
    have e : d = t := Nat.eq_of_beq_eq_true hb
    subst e
    simp only [cond_true, Option.some.injEq] at hu
    subst hu
    simp [Act.put, Array.getElem?_setIfInBounds, h.sz, hd]
  | false =>
    rw [hb] at hu
    have e : d ≠ t := fun e => by subst e; simp at hb
    simp only [cond_false] at hu
    simp [Act.put, Array.getElem?_setIfInBounds, e, h.ok t u hu]

def Subs (ss : List (Nat × Value)) : List (Nat × Value) → Prop
  | [] => True
  | (k, v) :: l => find ss k = some v ∧ Subs ss l

theorem Subs.find {ss : List (Nat × Value)} : ∀ {l : List (Nat × Value)}, Subs ss l → ∀ t v, find l t = some v → Sx.find ss t = some v
  | [], _, t, v, h => by simp [Sx.find] at h
  | (k, x) :: l, hs, t, v, h => by
    simp only [Sx.find] at h
    cases hb : Nat.beq k t with
    | true =>
      rw [hb] at h
      have e : k = t := Nat.eq_of_beq_eq_true hb
      simp only [cond_true, Option.some.injEq] at h
      rw [← e, ← h]
      exact hs.1
    | false =>
      rw [hb] at h
      simp only [cond_false] at h
      exact hs.2.find t v h

theorem Fr.weak {n : Nat} {ss ss' : List (Nat × Value)} {a : Act} (h : Fr n ss a) (hs : Subs ss ss') : Fr n ss' a :=
  ⟨h.sz, h.df, fun t v ht => h.ok t v (hs.find t v ht)⟩

/-- A slot known to hold v. -/
theorem Fr.know {n : Nat} {ss : List (Nat × Value)} {a : Act} (h : Fr n ss a) {d : Nat} {u v : Value} (hd : find ss d = some u) (e : u = v) : Fr n ((d, v) :: ss) a := by
  refine ⟨h.sz, h.df, fun t x hx => ?_⟩
  simp only [find] at hx
  cases hb : Nat.beq d t with
  | true =>
    rw [hb] at hx
    have e' : d = t := Nat.eq_of_beq_eq_true hb
    subst e'
    simp only [cond_true, Option.some.injEq] at hx
    rw [← hx, ← e]
    exact h.ok d u hd
  | false =>
    rw [hb] at hx
    simp only [cond_false] at hx
    exact h.ok t x hx

/-! ### Worlds: the frame of a call that may write the blocks S -/
structure Frm (S : List Nat) (w0 w : World) : Prop where
  os : w.os = w0.os
  tape : w.tape = w0.tape
  output : w.output = w0.output
  size : w0.heap.size ≤ w.heap.size
  block : ∀ k, k < w0.heap.size → k ∉ S → w.heap[k]? = w0.heap[k]?

theorem Frm.refl (S : List Nat) (w : World) : Frm S w w := ⟨rfl, rfl, rfl, Nat.le_refl _, fun _ _ _ => rfl⟩
theorem Frm.trans {S T : List Nat} {w0 w w' : World} (h : Frm S w0 w) (k : Frm T w w') (hT : ∀ b ∈ T, b ∈ S ∨ w0.heap.size ≤ b) : Frm S w0 w' :=
  ⟨k.os.trans h.os, k.tape.trans h.tape, k.output.trans h.output, Nat.le_trans h.size k.size, fun i hi hS => by
    have h1 : i ∉ T := fun hm => by rcases hT i hm with h | h; exact hS h; omega
    exact (k.block i (Nat.lt_of_lt_of_le hi h.size) h1).trans (h.block i hi hS)⟩
theorem Frm.drewN {S : List Nat} {w0 w : World} (h : Frm S w0 w) (n : Nat) : Frm S w0 (w.drewN n) := ⟨h.os, h.tape, h.output, h.size, h.block⟩
theorem Frm.below {w0 w : World} (h : Frm [] w0 w) : Below w0.heap.size w0 w := ⟨h.os, h.tape, h.output, h.size, fun k hk => h.block k hk (by simp)⟩
theorem Frm.mono {S T : List Nat} {w0 w : World} (h : Frm S w0 w) (hs : ∀ b ∈ S, b ∈ T) : Frm T w0 w :=
  ⟨h.os, h.tape, h.output, h.size, fun k hk hn => h.block k hk (fun hm => hn (hs k hm))⟩
theorem Frm.alloc (w : World) (o : Obj) : Frm [] w (w.alloc o) :=
  ⟨rfl, rfl, rfl, by simp, fun k hk _ => by show (w.heap.push o)[k]? = _; rw [Array.getElem?_push, if_neg (by omega)]⟩
/-! ### What a call owns -/
structure It where
  fp : List Nat
  P : World → Prop
  st : ∀ w w', (∀ b ∈ fp, w'.heap[b]? = w.heap[b]?) → P w → P w'
  lt : ∀ w, P w → ∀ b ∈ fp, b < w.heap.size

def It.obj (b : Nat) (o : Obj) : It where
  fp := [b]
  P := fun w => w.heap[b]? = some o
  st := fun w w' h hp => (h b (by simp)).trans hp
  lt := fun w hp c hc => by
    have : c = b := by simpa using hc
    subst this
    exact (Array.getElem?_eq_some_iff.1 hp).1

/-- Block b holds the cells cs, of type E. -/
def It.blk (b : Nat) (E : TypeId) (cs : List Value) : It := It.obj b (.cells cs.toArray E (0, 0))

structure Sep (S : List Nat) (w0 w : World) (l : List It) : Prop where
  frm : Frm S w0 w
  all : ∀ i ∈ l, i.P w
  own : ∀ i ∈ l, ∀ b ∈ i.fp, b ∈ S ∨ w0.heap.size ≤ b
  dis : l.Pairwise fun i j => ∀ b ∈ i.fp, b ∉ j.fp

theorem Sep.refl (w : World) : Sep [] w w [] := ⟨Frm.refl _ _, by simp, by simp, by simp⟩

theorem Sep.drewN {S : List Nat} {w0 w : World} {l : List It} (h : Sep S w0 w l) (n : Nat) : Sep S w0 (w.drewN n) l :=
  ⟨h.frm.drewN n, fun i hi => i.st w _ (fun b _ => rfl) (h.all i hi), h.own, h.dis⟩

theorem Sep.sub {S : List Nat} {w0 w : World} {l l' : List It} (h : Sep S w0 w l) (hs : l'.Sublist l) : Sep S w0 w l' :=
  ⟨h.frm, fun i hi => h.all i (hs.subset hi), fun i hi => h.own i (hs.subset hi), h.dis.sublist hs⟩

theorem Sep.perm {S : List Nat} {w0 w : World} {l l' : List It} (h : Sep S w0 w l) (hs : l'.Perm l) : Sep S w0 w l' :=
  ⟨h.frm, fun i hi => h.all i (hs.subset hi), fun i hi => h.own i (hs.subset hi), (hs.pairwise_iff (fun {x y} hxy => fun b hb hb' => hxy b hb' hb)).2 h.dis⟩

theorem Sep.lt {S : List Nat} {w0 w : World} {l : List It} (h : Sep S w0 w l) {i : It} (hi : i ∈ l) {b : Nat} (hb : b ∈ i.fp) : b < w.heap.size :=
  i.lt w (h.all i hi) b hb

/-- A call that was given lT, may have written T, and leaves l': the rest lr stays. -/
theorem Sep.call {S T : List Nat} {w0 w w' : World} {lT lr l' : List It} (h : Sep S w0 w (lT ++ lr)) (hT : ∀ b ∈ T, ∃ i ∈ lT, b ∈ i.fp) (k : Sep T w w' l') : Sep S w0 w' (l' ++ lr) := by
  have hTS : ∀ b ∈ T, b ∈ S ∨ w0.heap.size ≤ b := fun b hb => by
    obtain ⟨i, hi, hbi⟩ := hT b hb
    exact h.own i (List.mem_append_left _ hi) b hbi
  have hd := List.pairwise_append.1 h.dis
  have hnT : ∀ i ∈ lr, ∀ b ∈ i.fp, b ∉ T := fun i hi b hb hbT => by
    obtain ⟨j, hj, hbj⟩ := hT b hbT
    exact hd.2.2 j hj i hi b hbj hb
  have hlt : ∀ i ∈ lr, ∀ b ∈ i.fp, b < w.heap.size := fun i hi b hb => h.lt (List.mem_append_right _ hi) hb
  refine ⟨h.frm.trans k.frm hTS, fun i hi => ?_, fun i hi b hb => ?_, ?_⟩
  · rcases List.mem_append.1 hi with hi | hi
    · exact k.all i hi
    · exact i.st w w' (fun b hb => k.frm.block b (hlt i hi b hb) (hnT i hi b hb)) (h.all i (List.mem_append_right _ hi))
  · rcases List.mem_append.1 hi with hi | hi
    · rcases k.own i hi b hb with h1 | h1
      · exact hTS b h1
      · exact .inr (Nat.le_trans h.frm.size h1)
    · exact h.own i (List.mem_append_right _ hi) b hb
  · refine List.pairwise_append.2 ⟨k.dis, hd.2.1, fun i hi j hj b hb hbj => ?_⟩
    rcases k.own i hi b hb with h1 | h1
    · exact hnT j hj b hbj h1
    · exact absurd (hlt j hj b hbj) (by omega)

theorem Sep.call0 {S : List Nat} {w0 w w' : World} {lr l' : List It} (h : Sep S w0 w lr) (k : Sep [] w w' l') : Sep S w0 w' (l' ++ lr) :=
  Sep.call (lT := []) (by simpa using h) (by simp) k

inductive Upd : List It → It → It → List It → Prop
  | head (i i' : It) (l : List It) : Upd (i :: l) i i' (i' :: l)
  | tail (x : It) {i i' : It} {l l' : List It} : Upd l i i' l' → Upd (x :: l) i i' (x :: l')

theorem Upd.perm {l l' : List It} {i i' : It} (h : Upd l i i' l') : ∃ r, l.Perm (i :: r) ∧ l'.Perm (i' :: r) := by
  induction h with
  | head i i' l => exact ⟨l, .refl _, .refl _⟩
  | tail x h ih =>
    obtain ⟨r, h1, h2⟩ := ih
    exact ⟨x :: r, (h1.cons x).trans (.swap _ _ _), (h2.cons x).trans (.swap _ _ _)⟩

/-- One item is written (and may move to new memory); all else stays. -/
theorem Sep.upd {S : List Nat} {w0 w w' : World} {l l' : List It} {i i' : It} (h : Sep S w0 w l) (u : Upd l i i' l') (k : Frm i.fp w w') (hP : i'.P w')
    (hfp : ∀ b ∈ i'.fp, b ∈ i.fp ∨ w.heap.size ≤ b) : Sep S w0 w' l' := by
  obtain ⟨r, h1, h2⟩ := u.perm
  have hs : Sep S w0 w ([i] ++ r) := h.perm h1.symm
  have hk : Sep i.fp w w' [i'] := ⟨k, by simpa using hP, by simpa using hfp, by simp⟩
  exact (Sep.call hs (fun b hb => ⟨i, by simp, hb⟩) hk).perm h2

theorem Sep.add {S : List Nat} {w0 w w' : World} {l : List It} {i' : It} (h : Sep S w0 w l) (k : Frm [] w w') (hP : i'.P w') (hfp : ∀ b ∈ i'.fp, w.heap.size ≤ b) : Sep S w0 w' (i' :: l) :=
  Sep.call0 (l' := [i']) h ⟨k, by simpa using hP, fun i hi b hb => .inr (by have : i = i' := by simpa using hi
                                                                            subst this; exact hfp b hb), by simp⟩

theorem Sep.alloc {S : List Nat} {w0 w : World} {l : List It} (h : Sep S w0 w l) (o : Obj) : Sep S w0 (w.alloc o) (It.obj w.heap.size o :: l) :=
  h.add (Frm.alloc w o) (by show (w.heap.push o)[w.heap.size]? = some o; simp) (by simp [It.obj])

/-! ### The state of a walk -/
structure St (n : Nat) (S : List Nat) (w0 : World) (ss : List (Nat × Value)) (l : List It) (a : Act) (w : World) : Prop where
  fr : Fr n ss a
  sep : Sep S w0 w l

theorem St.weak {n : Nat} {S : List Nat} {w0 : World} {ss ss' : List (Nat × Value)} {l l' : List It} {a : Act} {w : World} (h : St n S w0 ss l a w) (hs : Subs ss ss') (hl : l = l') : St n S w0 ss' l' a w :=
  ⟨h.fr.weak hs, hl ▸ h.sep⟩
theorem St.drop {n : Nat} {S : List Nat} {w0 : World} {ss : List (Nat × Value)} {l l' : List It} {a : Act} {w : World} (h : St n S w0 ss l a w) (hl : l'.Sublist l) : St n S w0 ss l' a w :=
  ⟨h.fr, h.sep.sub hl⟩
theorem St.know {n : Nat} {S : List Nat} {w0 : World} {ss : List (Nat × Value)} {l : List It} {a : Act} {w : World} (h : St n S w0 ss l a w) {d : Nat} {u v : Value} (hd : find ss d = some u) (e : u = v) : St n S w0 ((d, v) :: ss) l a w :=
  ⟨h.fr.know hd e, h.sep⟩

/-- What a call leaves: it returns; v and the items are told by Φ. -/
def Post (S : List Nat) (w : World) (Φ : Value → List It → Prop) : Ending → World → Prop :=
  fun e w' => ∃ v l, e = .returned v ∧ Φ v l ∧ Sep S w w' l

/-- .. one value, no memory handed back. -/
def Gives (v : Value) (S : List Nat) (w : World) : Ending → World → Prop := Post S w fun u l => u = v ∧ l = []

/-! ### Short names for what walks say again and again -/
theorem Mh {α : Type} {a : α} {l : List α} : a ∈ a :: l := List.Mem.head _
theorem Mt {α : Type} {a b : α} {l : List α} (h : a ∈ l) : a ∈ b :: l := List.Mem.tail _ h
theorem Uh {i i' : It} {l : List It} : Upd (i :: l) i i' (i' :: l) := Upd.head _ _ _
theorem Ut {x i i' : It} {l l' : List It} (h : Upd l i i' l') : Upd (x :: l) i i' (x :: l') := Upd.tail _ h
theorem S0 {l : List It} : ([] : List It).Sublist l := List.nil_sublist _
theorem S1 {l : List It} : l.Sublist l := List.Sublist.refl _
theorem S2 {x : It} {l l' : List It} (h : l.Sublist l') : (x :: l).Sublist (x :: l') := h.cons_cons x
theorem S3 {x : It} {l l' : List It} (h : l.Sublist l') : l.Sublist (x :: l') := h.cons x
end Go.Sx

/- Own words for walks: one step of a walk at a time. -/
set_option linter.unusedVariables false
set_option linter.unusedSimpArgs false
namespace Go.Sx
open Go.RowKit

variable {P : Program} {n : Nat} {S : List Nat} {w0 : World} {ss : List (Nat × Value)} {l : List It}
variable {ops : Array Oper} {Q : Exit → Act → World → Prop} {rest : List Oper} {o : Oper} {a : Act} {w : World}

/-! ### Values that an operation yields whatever the world of that kind -/
def Yld (P : Program) (n : Nat) (S : List Nat) (w0 : World) (ss : List (Nat × Value)) (l : List It) (o : Oper) (v : Value) : Prop :=
  ∀ a w, Fr n ss a → Sep S w0 w l → (execOp a.eval o).run P w = .ok (.value v) w

def wantB (ops : Array Oper) (ss : List (Nat × Value)) (o : Oper) : Option Bool :=
  match o.guard with
  | none => some true
  | some (j, want) =>
    match (ops[j]?).bind (·.dst) with
    | none => none
    | some d => match find ss d with
      | some (.bool b) => some (b == want)
      | some (.tuple _) => some false
      | _ => none

theorem wanted_of {b : Bool} (hF : Fr n ss a) (h : wantB ops ss o = some b) : Region.wanted o (yielded ops a.tmps) = b := by
  unfold wantB at h
  unfold Region.wanted
  split at h
  · rename_i hg
    simp only [hg]
    simpa using h
  · rename_i j want hg
    simp only [hg]
    split at h
    · simp at h
    · rename_i d hd
      split at h
      · rename_i x hx
        have h1 := hF.ok _ _ hx
        have hy : yielded ops a.tmps j = some x := by simp [yielded, hd, h1]
        rw [hy]
        have h2 : (x == want) = b := by simpa using h
        rw [← h2]
        cases x <;> cases want <;> rfl
      · rename_i x hx
        have h1 := hF.ok _ _ hx
        have hy : yielded ops a.tmps j = none := by simp [yielded, hd, h1]
        rw [hy]
        have h2 : b = false := by simpa using h.symm
        rw [h2]
        rfl
      · simp at h

theorem plain {d : Nat} {v : Value} (hy : Yld P n S w0 ss l o v) (hw : wantB ops ss o = some true) (hd : o.dst = some d) (hn : Nat.ble (d + 1) n = true) (H : St n S w0 ss l a w)
    (K : ∀ a', St n S w0 ((d, v) :: ss) l a' w → wpList P ops Q rest a' w) : wpList P ops Q (o :: rest) a w := by
  unfold wpList
  rw [if_pos (wanted_of H.fr hw)]
  refine .inl ?_
  unfold Oper.wp
  rw [hy a w H.fr H.sep]
  show wpList P ops Q rest (a.put o.dst v) w
  rw [hd]
  exact K _ ⟨H.fr.put (Nat.lt_of_succ_le (Nat.le_of_ble_eq_true hn)) v, H.sep⟩

theorem skip {d : Nat} (hw : wantB ops ss o = some false) (hd : o.dst = some d) (hn : Nat.ble (d + 1) n = true) (H : St n S w0 ss l a w)
    (K : ∀ a', St n S w0 ((d, undef) :: ss) l a' w → wpList P ops Q rest a' w) : wpList P ops Q (o :: rest) a w := by
  unfold wpList
  rw [if_neg (by rw [wanted_of H.fr hw]; simp)]
  rw [hd]
  exact K _ ⟨H.fr.put (Nat.lt_of_succ_le (Nat.le_of_ble_eq_true hn)) _, H.sep⟩

/-- An operation that yields a value and leaves another world. -/
theorem does {d : Nat} (hw : wantB ops ss o = some true) (hd : o.dst = some d) (hn : Nat.ble (d + 1) n = true) (H : St n S w0 ss l a w) {v : Value} {w' : World} {l' : List It}
    (hr : (execOp a.eval o).run P w = .ok (.value v) w') (hs : Sep S w0 w' l')
    (K : ∀ a', St n S w0 ((d, v) :: ss) l' a' w' → wpList P ops Q rest a' w') : wpList P ops Q (o :: rest) a w := by
  unfold wpList
  rw [if_pos (wanted_of H.fr hw)]
  refine .inl ?_
  unfold Oper.wp
  rw [hr]
  show wpList P ops Q rest (a.put o.dst v) w'
  rw [hd]
  exact K _ ⟨H.fr.put (Nat.lt_of_succ_le (Nat.le_of_ble_eq_true hn)) v, hs⟩

theorem does_none (hw : wantB ops ss o = some true) (hd : o.dst = none) (H : St n S w0 ss l a w) {w' : World} {l' : List It}
    (hr : (execOp a.eval o).run P w = .ok .skip w') (hs : Sep S w0 w' l')
    (K : St n S w0 ss l' a w' → wpList P ops Q rest a w') : wpList P ops Q (o :: rest) a w := by
  unfold wpList
  rw [if_pos (wanted_of H.fr hw)]
  refine .inl ?_
  unfold Oper.wp
  rw [hr]
  show wpList P ops Q rest (a.put o.dst undef) w'
  rw [hd]
  exact K ⟨H.fr, hs⟩

/-- The end of a region. -/
theorem reg {id : Nat} {rl : List Oper} (h : wpList P rl.toArray Q rl a w) : (Code.region id rl.toArray false).wp P Q a w := wp_region_lit h
theorem fin (h : Q .normal a w) : wpList P ops Q [] a w := h

/-! ### Regions that draw their order, quiet ones -/
theorem qreg {id : Nat} {rl : List Oper} (hm : P.follows .mixedOrders = true) (hB : Region.lexB .any rl.toArray = true) (H : St n S w0 ss l a w)
    (h : wpQuiet P rl.toArray (fun w' => Sep S w0 w' l) (fun a' => ∀ w', Sep S w0 w' l → Q .normal a' w') rl a) : (Code.region id rl.toArray true).wp P Q a w :=
  wp_region_quiet (C := fun w' => Sep S w0 w' l) hm hB (H.sep.drewN 1) (by simpa using h)

variable {Qa : Act → Prop}
theorem qplain {d : Nat} {v : Value} (hy : Yld P n S w0 ss l o v) (hw : wantB ops ss o = some true) (hd : o.dst = some d) (hn : Nat.ble (d + 1) n = true) (H : Fr n ss a)
    (K : ∀ a', Fr n ((d, v) :: ss) a' → wpQuiet P ops (fun w' => Sep S w0 w' l) Qa rest a') : wpQuiet P ops (fun w' => Sep S w0 w' l) Qa (o :: rest) a := by
  unfold wpQuiet
  rw [if_pos (wanted_of H hw)]
  refine ⟨v, fun w hs => ?_, ?_⟩
  · unfold Oper.quietAt
    rw [hy a w H hs]
    exact ⟨rfl, rfl⟩
  · rw [hd]
    exact K _ (H.put (Nat.lt_of_succ_le (Nat.le_of_ble_eq_true hn)) v)
theorem qfin (F : Fr n ss a) (h : ∀ w', St n S w0 ss l a w' → Q .normal a w') : wpQuiet P ops (fun w' => Sep S w0 w' l) (fun a' => ∀ w', Sep S w0 w' l → Q .normal a' w') [] a :=
  fun w' hs => h w' ⟨F, hs⟩

/-! ### Control -/
theorem then_n {next : Act → World → Prop} (h : next a w) : Exit.then next Q .normal a w := h
theorem then_x {next : Act → World → Prop} {id : Nat} (h : Q (.exit id) a w) : Exit.then next Q (.exit id) a w := h
theorem then_r {next : Act → World → Prop} (h : Q .ret a w) : Exit.then next Q .ret a w := h
theorem inb_n {id : Nat} (h : Q .normal a w) : Exit.inBlock id Q .normal a w := h
theorem inb_r {id : Nat} (h : Q .ret a w) : Exit.inBlock id Q .ret a w := h
theorem inb_hit {id : Nat} (h : Q .normal a w) : Exit.inBlock id Q (.exit id) a w := by simpa [Exit.inBlock] using h
theorem cnd {c : Operand} {x y : Code} {t : Bool} (H : St n S w0 ss l a w) (hc : evO ss c = some (.bool t)) (ht : t = true → x.wp P Q a w) (hf : t = false → y.wp P Q a w) : (Code.cond c x y).wp P Q a w :=
  wp_cond_split (H.fr.ev hc) ht hf
theorem cnd_d {c : Operand} {x y : Code} {p : Prop} [Decidable p] (H : St n S w0 ss l a w) (hc : evO ss c = some (.bool (decide p))) (ht : p → x.wp P Q a w) (hf : ¬ p → y.wp P Q a w) : (Code.cond c x y).wp P Q a w :=
  wp_cond_split (H.fr.ev hc) (fun h => ht (of_decide_eq_true h)) (fun h => hf (of_decide_eq_false h))
theorem cnd_t {c : Operand} {x y : Code} (H : St n S w0 ss l a w) (hc : evO ss c = some (.bool true)) (ht : x.wp P Q a w) : (Code.cond c x y).wp P Q a w :=
  wp_cond_true (H.fr.ev hc) ht
theorem cnd_f {c : Operand} {x y : Code} (H : St n S w0 ss l a w) (hc : evO ss c = some (.bool false)) (hf : y.wp P Q a w) : (Code.cond c x y).wp P Q a w :=
  wp_cond_false (H.fr.ev hc) hf

/-- A bool that a guard asks: both ways. -/
theorem part {G : Prop} {d : Nat} {t : Bool} (H : St n S w0 ss l a w) (hd : find ss d = some (.bool t)) (ht : t = true → St n S w0 ((d, .bool true) :: ss) l a w → G) (hf : t = false → St n S w0 ((d, .bool false) :: ss) l a w → G) : G := by
  cases t with
  | true => exact ht rfl (H.know hd rfl)
  | false => exact hf rfl (H.know hd rfl)
/-- A loop: what a number (or more) i tells of the frame and of what is owned. -/
theorem loop_aux {ι : Type} {c : Code} (I : ι → Act → World → Prop) (μ : ι → Nat)
    (round : ∀ i a w, I i a w → c.wp P (Exit.then (fun a' w' => ∃ i', μ i' < μ i ∧ I i' a' w') Q) a w) :
    ∀ m i a w, μ i = m → I i a w → ∀ b k cs, ∃ e a' w', Q e a' w' ∧ Arrives P (lone (b.at a (.code c :: .inLoop c :: k)) cs w) b k cs e a' w' := by
  intro m
  induction m using Nat.strongRecOn with
  | _ m ih =>
    intro i a w hm hI b k cs
    obtain ⟨e, a₁, w₁, hq, harr⟩ := round i a w hI b (.inLoop c :: k) cs
    cases e with
    | normal =>
      obtain ⟨i', hlt, hI'⟩ := hq
      obtain ⟨e₂, a₂, w₂, hq₂, harr₂⟩ := ih (μ i') (hm ▸ hlt) i' a₁ w₁ rfl hI' b k cs
      exact ⟨e₂, a₂, w₂, hq₂, .of_steps (Steps.trans harr (.one step_inLoop)) harr₂⟩
    | exit id => exact ⟨_, a₁, w₁, hq, .pass (x := .inLoop c) rfl (fun _ _ => .inl (by simp)) harr⟩
    | goto l => exact ⟨_, a₁, w₁, hq, .pass (x := .inLoop c) rfl (fun _ _ => .inl (by simp)) harr⟩
    | ret => exact ⟨_, a₁, w₁, hq, .pass (x := .inLoop c) rfl (fun _ _ => .inl (by simp)) harr⟩
    | panic ch => exact ⟨_, a₁, w₁, hq, .pass (x := .inLoop c) rfl (fun _ _ => .inl (by simp)) harr⟩
    | outgrown => exact ⟨_, a₁, w₁, hq, .pass (x := .inLoop c) rfl (fun _ _ => .inl (by simp)) harr⟩

/-- A loop: what a datum i tells of the frame and of what is owned; each round comes to a smaller one. -/
theorem loop {ι : Type} {c : Code} (ssf : ι → List (Nat × Value)) (lf : ι → List It) (ok : ι → Prop) (μ : ι → Nat) (i0 : ι) (h0 : ok i0) (H : St n S w0 (ssf i0) (lf i0) a w)
    (round : ∀ i a w, ok i → St n S w0 (ssf i) (lf i) a w → c.wp P (Exit.then (fun a' w' => ∃ i', μ i' < μ i ∧ ok i' ∧ St n S w0 (ssf i') (lf i') a' w') Q) a w) : (Code.loop c).wp P Q a w := by
  intro b k cs
  obtain ⟨e, a', w', hq, harr⟩ := loop_aux (P := P) (Q := Q) (c := c) (fun i a w => ok i ∧ St n S w0 (ssf i) (lf i) a w) μ (fun i a w h => round i a w h.1 h.2) _ i0 a w rfl ⟨h0, H⟩ b k cs
  exact ⟨e, a', w', hq, .of_steps (.one step_loop) harr⟩

/-- What meets again. -/
def cutQ (I : Act → World → Prop) (Q : Exit → Act → World → Prop) : Exit → Act → World → Prop
  | .normal, a, w => I a w
  | e, a, w => Q e a w
theorem wp_cut {c : Code} (I : Act → World → Prop) (h : c.wp P (cutQ I Q) a w) (k : ∀ a w, I a w → Q .normal a w) : c.wp P Q a w :=
  Code.wp_mono (fun e a w q => by cases e with
    | normal => exact k a w q
    | _ => exact q) h
theorem cut_n {I : Act → World → Prop} (h : I a w) : cutQ I Q .normal a w := h
/-! ### Begin and end of a function -/
theorem enter {f : FuncId} {fn : Func} {c : Code} {args : Array Value} {w : World} {R : Ending → World → Prop} (hf : P.funcs[f]? = some fn) (hb : fn.body = some c) {l : List It} (hS : Sep S w w l)
    (ss : List (Nat × Value)) (hss : ∀ t v, find ss t = some v → args[t]? = some v) (hn : Nat.ble args.size fn.ntmps = true)
    (h : ∀ a, St fn.ntmps S w ss l a w → c.wp P (bodyPost P fn R) a w) : Calls P f args w R := by
  refine calls_of_wp hf hb (h _ ⟨⟨?_, rfl, fun t v ht => ?_⟩, hS⟩)
  · simp
    have := Nat.le_of_ble_eq_true hn
    omega
  · have h1 := hss t v ht
    have h2 : t < args.size := (Array.getElem?_eq_some_iff.1 h1).1
    show (args ++ _)[t]? = some v
    rw [Array.getElem?_append_left h2]
    exact h1

/-- The arguments, one slot each. -/
def slots : Nat → List Value → List (Nat × Value)
  | _, [] => []
  | k, v :: r => (k, v) :: slots (k + 1) r
theorem find_slots : ∀ (r : List Value) (k t : Nat) (v : Value), find (slots k r) t = some v → k ≤ t ∧ r[t - k]? = some v
  | [], k, t, v, h => by simp [slots, find] at h
  | x :: r, k, t, v, h => by
    simp only [slots, find] at h
    cases hb : Nat.beq k t with
    | true =>
      rw [hb] at h
      have e : k = t := Nat.eq_of_beq_eq_true hb
      subst e
      simp only [cond_true, Option.some.injEq] at h
      simp [h]
    | false =>
      rw [hb] at h
      have e : k ≠ t := fun e => by subst e; simp at hb
      simp only [cond_false] at h
      obtain ⟨h1, h2⟩ := find_slots r (k + 1) t v h
      refine ⟨by omega, ?_⟩
      have : t - k = (t - (k + 1)) + 1 := by omega
      rw [this]
      simpa using h2

theorem enterL {f : FuncId} {fn : Func} {c : Code} {args : List Value} {w : World} {R : Ending → World → Prop} (hf : P.funcs[f]? = some fn) (hb : fn.body = some c) (hn : Nat.ble args.length fn.ntmps = true) {l : List It} (hS : Sep S w w l)
    (h : ∀ a, St fn.ntmps S w (slots 0 args) l a w → c.wp P (bodyPost P fn R) a w) : Calls P f args.toArray w R :=
  enter hf hb hS (slots 0 args) (fun t v ht => by have := (find_slots args 0 t v ht).2; simpa using this) (by simpa using hn) h

theorem ret0 {fn : Func} {R : Ending → World → Prop} (hr : fn.results = #[]) (H : St n S w0 ss l a w) (h : R (.returned (.tuple #[])) w) : bodyPost P fn R .ret a w :=
  bodyPost_ret (results_none hr _ _ _) H.fr.df h
theorem end0 {fn : Func} {R : Ending → World → Prop} (hr : fn.results = #[]) (H : St n S w0 ss l a w) (h : R (.returned (.tuple #[])) w) : bodyPost P fn R .normal a w :=
  bodyPost_end (results_none hr _ _ _) H.fr.df h
theorem getD_of {t : Nat} {v : Value} (F : Fr n ss a) (h : find ss t = some v) : a.tmps.getD t undef = v := F.ev (x := .tmp t) h
theorem ret1 {fn : Func} {R : Ending → World → Prop} {t : Nat} {v : Value} (hr : fn.results = #[.tmp t]) (H : St n S w0 ss l a w) (hv : find ss t = some v) (h : R (.returned v) w) : bodyPost P fn R .ret a w :=
  bodyPost_ret (v := v) (by rw [results_tmp hr, getD_of H.fr hv]) H.fr.df h
theorem ret2 {fn : Func} {R : Ending → World → Prop} {t u : Nat} {v x : Value} (hr : fn.results = #[.tmp t, .tmp u]) (H : St n S w0 ss l a w) (hv : find ss t = some v) (hx : find ss u = some x) (h : R (.returned (.tuple #[v, x])) w) : bodyPost P fn R .ret a w :=
  bodyPost_ret (v := .tuple #[v, x]) (by rw [results_tmp2 hr, getD_of H.fr hv, getD_of H.fr hx]) H.fr.df h
end Go.Sx

/- Own words for walks: what each operation yields. -/
set_option linter.unusedVariables false
set_option linter.unusedSimpArgs false
namespace Go.Sx
open Go.RowKit

def nth : List Value → Nat → Option Value
  | [], _ => none
  | v :: _, 0 => some v
  | _ :: l, n + 1 => nth l n
theorem nth_eq : ∀ (l : List Value) (i : Nat), nth l i = l[i]?
  | [], i => by simp [nth]
  | v :: l, 0 => by simp [nth]
  | v :: l, i + 1 => by simp [nth, nth_eq l i]
/-- A text as its bytes. -/
@[reducible] def str (l : List UInt8) : Value := .string ⟨l.toArray⟩
/-- A word of 32 bits. -/
@[reducible] def u32 (x : BitVec 32) : Value := .int .u32 (x.toNat : Int)
/-- A byte. -/
@[reducible] def u8 (x : UInt8) : Value := .int .u8 (x.toNat : Int)

theorem w64 {x : Int} (h1 : -9223372036854775808 ≤ x) (h2 : x ≤ 9223372036854775807) : IntKind.i64.wrap x = x := IntWalk.i64_in x ⟨h1, h2⟩
theorem wu64 {x : Int} (h1 : 0 ≤ x) (h2 : x ≤ 18446744073709551615) : IntKind.u64.wrap x = x := by
  simp [IntKind.wrap, IntKind.bits, IntKind.signed]; omega
theorem wu8_mod (x : Int) : IntKind.u8.wrap x = x % 256 := by
  simp [IntKind.wrap, IntKind.bits, IntKind.signed]

section
variable {P : Program} {n : Nat} {S : List Nat} {w0 : World} {ss : List (Nat × Value)} {l : List It} {o : Oper}

/-! ### Moves, choices -/
theorem y_move {x : Operand} {v : Value} (ho : o.op = .move x) (hx : evO ss x = some v) : Yld P n S w0 ss l o v := by
  intro a w F _; simp [execOp, ho, F.ev hx]
theorem y_assign {x : Operand} {v : Value} (ho : o.op = .assign x) (hx : evO ss x = some v) : Yld P n S w0 ss l o v := by
  intro a w F _; simp [execOp, ho, F.ev hx]
theorem y_pick_t {c x y : Operand} {v : Value} (ho : o.op = .pick c x y) (hc : evO ss c = some (.bool true)) (hx : evO ss x = some v) : Yld P n S w0 ss l o v := by
  intro a w F _; simp [execOp, ho, F.ev hx, F.ev hc, asBool]
theorem y_pick_f {c x y : Operand} {v : Value} (ho : o.op = .pick c x y) (hc : evO ss c = some (.bool false)) (hx : evO ss y = some v) : Yld P n S w0 ss l o v := by
  intro a w F _; simp [execOp, ho, F.ev hx, F.ev hc, asBool]
theorem y_extract {x : Operand} {i : Nat} {vs : List Value} {v : Value} (ho : o.op = .extract x i) (hx : evO ss x = some (.tuple vs.toArray)) (hv : nth vs i = some v) : Yld P n S w0 ss l o v := by
  have hv' : vs[i]? = some v := by rw [← nth_eq]; exact hv
  intro a w F _; simp [execOp, ho, F.ev hx, Instr.extract, hv']
theorem y_nilCheck {x : Operand} {ad : Addr} (ho : o.op = .nilCheck x) (hx : evO ss x = some (.pointer (some ad))) : Yld P n S w0 ss l o (.pointer (some ad)) := by
  intro a w F _; simp [execOp, ho, F.ev hx]
/-! ### Whole numbers -/
theorem y_add {t t' : TypeId} {x y : Operand} {k : IntKind} {p q r : Int} (ho : o.op = .binOp .add t x y t') (hx : evO ss x = some (.int k p)) (hy : evO ss y = some (.int k q)) (hr : k.wrap (p + q) = r) : Yld P n S w0 ss l o (.int k r) := by
  intro a w F _; simp [execOp, ho, F.ev hx, F.ev hy, eqGuard, binOp, Op.intArith, hr]
theorem y_sub {t t' : TypeId} {x y : Operand} {k : IntKind} {p q r : Int} (ho : o.op = .binOp .sub t x y t') (hx : evO ss x = some (.int k p)) (hy : evO ss y = some (.int k q)) (hr : k.wrap (p - q) = r) : Yld P n S w0 ss l o (.int k r) := by
  intro a w F _; simp [execOp, ho, F.ev hx, F.ev hy, eqGuard, binOp, Op.intArith, hr]
theorem y_mul {t t' : TypeId} {x y : Operand} {k : IntKind} {p q r : Int} (ho : o.op = .binOp .mul t x y t') (hx : evO ss x = some (.int k p)) (hy : evO ss y = some (.int k q)) (hr : k.wrap (p * q) = r) : Yld P n S w0 ss l o (.int k r) := by
  intro a w F _; simp [execOp, ho, F.ev hx, F.ev hy, eqGuard, binOp, Op.intArith, hr]
theorem y_quo {t t' : TypeId} {x y : Operand} {k : IntKind} {p q r : Int} (ho : o.op = .binOp .quo t x y t') (hx : evO ss x = some (.int k p)) (hy : evO ss y = some (.int k q)) (h0 : q ≠ 0) (hr : k.wrap (p.tdiv q) = r) : Yld P n S w0 ss l o (.int k r) := by
  intro a w F _; simp [execOp, ho, F.ev hx, F.ev hy, eqGuard, binOp, Op.intDiv, hr, h0]
theorem y_rem {t t' : TypeId} {x y : Operand} {k : IntKind} {p q r : Int} (ho : o.op = .binOp .rem t x y t') (hx : evO ss x = some (.int k p)) (hy : evO ss y = some (.int k q)) (h0 : q ≠ 0) (hr : p.tmod q = r) : Yld P n S w0 ss l o (.int k r) := by
  intro a w F _; simp [execOp, ho, F.ev hx, F.ev hy, eqGuard, binOp, Op.intDiv, hr, h0]
theorem y_shl {t t' : TypeId} {x y : Operand} {k k' : IntKind} {p q r : Int} (ho : o.op = .binOp .shl t x y t') (hx : evO ss x = some (.int k p)) (hy : evO ss y = some (.int k' q)) (h0 : 0 ≤ q) (hr : k.wrap (p * 2 ^ (min q.toNat k.bits)) = r) : Yld P n S w0 ss l o (.int k r) := by
  intro a w F _; simp [execOp, ho, F.ev hx, F.ev hy, eqGuard, binOp, Op.shift, hr, Int.not_lt.2 h0]
theorem y_shr {t t' : TypeId} {x y : Operand} {k k' : IntKind} {p q r : Int} (ho : o.op = .binOp .shr t x y t') (hx : evO ss x = some (.int k p)) (hy : evO ss y = some (.int k' q)) (h0 : 0 ≤ q) (hr : p.fdiv (2 ^ (min q.toNat k.bits)) = r) : Yld P n S w0 ss l o (.int k r) := by
  intro a w F _; simp [execOp, ho, F.ev hx, F.ev hy, eqGuard, binOp, Op.shift, hr, Int.not_lt.2 h0]
theorem y_and {t t' : TypeId} {x y : Operand} {k : IntKind} {p q r : Int} (ho : o.op = .binOp .and t x y t') (hx : evO ss x = some (.int k p)) (hy : evO ss y = some (.int k q)) (hr : k.wrap (BitVec.ofInt k.bits p &&& BitVec.ofInt k.bits q).toNat = r) : Yld P n S w0 ss l o (.int k r) := by
  intro a w F _; simp only [execOp, ho, F.ev hx, F.ev hy, eqGuard, binOp, Op.intBits, hr]; simp
theorem y_or {t t' : TypeId} {x y : Operand} {k : IntKind} {p q r : Int} (ho : o.op = .binOp .or t x y t') (hx : evO ss x = some (.int k p)) (hy : evO ss y = some (.int k q)) (hr : k.wrap (BitVec.ofInt k.bits p ||| BitVec.ofInt k.bits q).toNat = r) : Yld P n S w0 ss l o (.int k r) := by
  intro a w F _; simp only [execOp, ho, F.ev hx, F.ev hy, eqGuard, binOp, Op.intBits, hr]; simp
theorem y_xor {t t' : TypeId} {x y : Operand} {k : IntKind} {p q r : Int} (ho : o.op = .binOp .xor t x y t') (hx : evO ss x = some (.int k p)) (hy : evO ss y = some (.int k q)) (hr : k.wrap (BitVec.ofInt k.bits p ^^^ BitVec.ofInt k.bits q).toNat = r) : Yld P n S w0 ss l o (.int k r) := by
  intro a w F _; simp only [execOp, ho, F.ev hx, F.ev hy, eqGuard, binOp, Op.intBits, hr]; simp
theorem y_lss {t t' : TypeId} {x y : Operand} {k : IntKind} {p q : Int} (ho : o.op = .binOp .lss t x y t') (hx : evO ss x = some (.int k p)) (hy : evO ss y = some (.int k q)) : Yld P n S w0 ss l o (.bool (decide (p < q))) := by
  intro a w F _; simp [execOp, ho, F.ev hx, F.ev hy, eqGuard, binOp, Op.intCmp]
theorem y_leq {t t' : TypeId} {x y : Operand} {k : IntKind} {p q : Int} (ho : o.op = .binOp .leq t x y t') (hx : evO ss x = some (.int k p)) (hy : evO ss y = some (.int k q)) : Yld P n S w0 ss l o (.bool (decide (p ≤ q))) := by
  intro a w F _; simp [execOp, ho, F.ev hx, F.ev hy, eqGuard, binOp, Op.intCmp]
theorem y_gtr {t t' : TypeId} {x y : Operand} {k : IntKind} {p q : Int} (ho : o.op = .binOp .gtr t x y t') (hx : evO ss x = some (.int k p)) (hy : evO ss y = some (.int k q)) : Yld P n S w0 ss l o (.bool (decide (q < p))) := by
  intro a w F _; simp [execOp, ho, F.ev hx, F.ev hy, eqGuard, binOp, Op.intCmp]
theorem y_geq {t t' : TypeId} {x y : Operand} {k : IntKind} {p q : Int} (ho : o.op = .binOp .geq t x y t') (hx : evO ss x = some (.int k p)) (hy : evO ss y = some (.int k q)) : Yld P n S w0 ss l o (.bool (decide (q ≤ p))) := by
  intro a w F _; simp [execOp, ho, F.ev hx, F.ev hy, eqGuard, binOp, Op.intCmp]
theorem y_eql {t t' : TypeId} {x y : Operand} {k : IntKind} {p q : Int} (ho : o.op = .binOp .eql t x y t') (hx : evO ss x = some (.int k p)) (hy : evO ss y = some (.int k q)) : Yld P n S w0 ss l o (.bool (decide (p = q))) := by
  intro a w F _; simp [execOp, ho, F.ev hx, F.ev hy, eqGuard, binOp, Op.intCmp]; rfl
theorem y_neq {t t' : TypeId} {x y : Operand} {k : IntKind} {p q : Int} (ho : o.op = .binOp .neq t x y t') (hx : evO ss x = some (.int k p)) (hy : evO ss y = some (.int k q)) : Yld P n S w0 ss l o (.bool (decide (p ≠ q))) := by
  intro a w F _; simp [execOp, ho, F.ev hx, F.ev hy, eqGuard, binOp, Op.intCmp, bne]; rfl
theorem y_not {t : TypeId} {x : Operand} {b : Bool} (ho : o.op = .unOp .not t x) (hx : evO ss x = some (.bool b)) : Yld P n S w0 ss l o (.bool (!b)) := by
  intro a w F _; simp [execOp, ho, F.ev hx, Op.unary]
theorem y_not_d {t : TypeId} {x : Operand} {p : Prop} [Decidable p] (ho : o.op = .unOp .not t x) (hx : evO ss x = some (.bool (decide p))) : Yld P n S w0 ss l o (.bool (decide (¬ p))) := by
  intro a w F _; simp [execOp, ho, F.ev hx, Op.unary]
theorem y_conv {s t : TypeId} {x : Operand} {k k' : IntKind} {p r : Int} (ho : o.op = .convert s t x) {d : TypeDesc} (hs : P.underlying s = some d) (ht : P.underlying t = some (.int k')) (hx : evO ss x = some (.int k p)) (hr : k'.wrap p = r) : Yld P n S w0 ss l o (.int k' r) := by
  intro a w F _; simp [execOp, ho, F.ev hx, convert, underlying, program, Sem.run, hs, ht, Conv.intToInt, hr]

/-! ### Bools -/
theorem y_bneq {t t' : TypeId} {x y : Operand} {p q : Bool} (ho : o.op = .binOp .neq t x y t') (ht : P.underlying t = some .bool) (hx : evO ss x = some (.bool p)) (hy : evO ss y = some (.bool q)) : Yld P n S w0 ss l o (.bool (!(p == q))) := by
  intro a w F _; simp [execOp, ho, F.ev hx, F.ev hy, eqGuard, run_neq_bool w t p q ht]

/-! ### Texts -/
theorem size_mk (p : List UInt8) : (ByteArray.mk p.toArray).size = p.length := by simp [ByteArray.size]
theorem lbeq (p q : List UInt8) : (p == q) = decide (p = q) := by
  cases h : (p == q) with
  | true => simp [beq_iff_eq.1 h]
  | false => simp [beq_eq_false_iff_ne.1 h]
theorem y_seql {t t' : TypeId} {x y : Operand} {p q : List UInt8} (ho : o.op = .binOp .eql t x y t') (hx : evO ss x = some (str p)) (hy : evO ss y = some (str q)) : Yld P n S w0 ss l o (.bool (decide (p = q))) := by
  intro a w F _; simp [execOp, ho, F.ev hx, F.ev hy, eqGuard, binOp_string_eql, lbeq]
theorem y_sadd {t t' : TypeId} {x y : Operand} {p q : List UInt8} (ho : o.op = .binOp .add t x y t') (hx : evO ss x = some (str p)) (hy : evO ss y = some (str q)) (hb : p.length + q.length ≤ 9223372036854775807) : Yld P n S w0 ss l o (str (p ++ q)) := by
  intro a w F _
  have h1 := run_string_add_sum (P := P) (w := w) (⟨p.toArray⟩) (⟨q.toArray⟩) (by rw [size_mk, size_mk]; exact hb)
  rw [ByteArray.mk_append_mk] at h1
  simp [execOp, ho, F.ev hx, F.ev hy, eqGuard, binOp_string_add, h1]
theorem y_slen {x : Operand} {t : TypeId} {p : List UInt8} (ho : o.op = .call { callee := .builtin .len, args := #[x], argTypes := #[t] }) (ht : P.underlying t = some .string) (hx : evO ss x = some (str p)) : Yld P n S w0 ss l o (.int .i64 (p.length : Int)) := by
  intro a w F _; simp [execOp, ho, F.ev hx, resolve, invoke, builtin, run_len_string w t _ _ ht, goInt, size_mk]
theorem y_len {x : Operand} {t e : TypeId} {A : Option Addr} {m c : Nat} (ho : o.op = .call { callee := .builtin .len, args := #[x], argTypes := #[t] }) (ht : P.underlying t = some (.slice e)) (hx : evO ss x = some (.slice A m c)) : Yld P n S w0 ss l o (.int .i64 (m : Int)) := by
  intro a w F _; simp [execOp, ho, F.ev hx, resolve, invoke, builtin, Builtin.len_, run_underlying ht, goInt]
theorem y_sindex {x i : Operand} {t : TypeId} {p : List UInt8} {k : IntKind} {q : Int} {b : UInt8} (ho : o.op = .index t x i) (ht : P.underlying t = some .string) (hx : evO ss x = some (str p)) (hi : evO ss i = some (.int k q)) (h0 : 0 ≤ q) (hb : p[q.toNat]? = some b) : Yld P n S w0 ss l o (u8 b) := by
  intro a w F _
  obtain ⟨h1, h2⟩ := List.getElem?_eq_some_iff.1 hb
  have h3 : 0 ≤ q ∧ q < ((ByteArray.mk p.toArray).size : Int) := ⟨h0, by rw [size_mk]; omega⟩
  have h4 := run_index_string (P := P) w t (ByteArray.mk p.toArray) k q ht
  rw [dif_pos h3] at h4
  have h5 : (ByteArray.mk p.toArray)[q.toNat]'(by omega) = b := by
    show (p.toArray)[q.toNat]'_ = b
    simpa using h2
  rw [h5] at h4
  simp [execOp, ho, F.ev hx, F.ev hi, h4]
theorem y_sidx {x i : Operand} {t : TypeId} {p : List UInt8} {k : IntKind} {q : Int} (ho : o.op = .index t x i) (ht : P.underlying t = some .string) (hx : evO ss x = some (str p)) (hi : evO ss i = some (.int k q)) (h0 : 0 ≤ q) (h1 : q < p.length) : Yld P n S w0 ss l o (u8 (p.getD q.toNat 0)) :=
  y_sindex ho ht hx hi h0 (by
    have : q.toNat < p.length := by omega
    simp [List.getD_eq_getElem?_getD, List.getElem?_eq_getElem this])
theorem y_sslice {x : Operand} {t : TypeId} {p : List UInt8} {lo hi : Operand} {k k' : IntKind} {i j : Int} (ho : o.op = .slice t x (some lo) (some hi) none) (ht : P.underlying t = some .string) (hx : evO ss x = some (str p)) (hl : evO ss lo = some (.int k i)) (hh : evO ss hi = some (.int k' j)) (h0 : 0 ≤ i) (h1 : i ≤ j) (h2 : j ≤ p.length) : Yld P n S w0 ss l o (str ((p.drop i.toNat).take (j.toNat - i.toNat))) := by
  intro a w F _
  have h3 := run_slice_string (P := P) w t (ByteArray.mk p.toArray) k k' i j ht h0 h1 (by rw [size_mk]; exact h2)
  rw [ByteArray.extract_mk] at h3
  simp [execOp, ho, F.ev hx, F.ev hl, F.ev hh, Instr.sliceAt, run_underlying ht, h3]
theorem y_sslice_lo {x : Operand} {t : TypeId} {p : List UInt8} {lo : Operand} {k : IntKind} {i : Int} (ho : o.op = .slice t x (some lo) none none) (ht : P.underlying t = some .string) (hx : evO ss x = some (str p)) (hl : evO ss lo = some (.int k i)) (h0 : 0 ≤ i) (h1 : i ≤ p.length) : Yld P n S w0 ss l o (str (p.drop i.toNat)) := by
  intro a w F _
  have h3 := run_slice_string_from_if (P := P) w t (ByteArray.mk p.toArray) k i ht
  rw [if_pos ⟨h0, by rw [size_mk]; exact h1⟩, ByteArray.extract_mk, size_mk, List.take_of_length_le (by simp)] at h3
  simp [execOp, ho, F.ev hx, F.ev hl, Instr.sliceAt, run_underlying ht, h3]
end
end Go.Sx
