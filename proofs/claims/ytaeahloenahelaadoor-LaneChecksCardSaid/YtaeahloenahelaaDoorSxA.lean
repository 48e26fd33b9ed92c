/- Own words for walks: what is known of a frame, and of the blocks that a call owns. -/
import Derived.Calls
import Derived.Tactics
import Derived.Deep.Quiet
import Derived.Below
import Derived.Laws.AppendOwn
import Derived.KernelRfl
set_option linter.unusedVariables false
set_option linter.unusedSimpArgs false
namespace Go.Sx
open Go.RowKit

/-! ### Frames -/
def find : List (Nat × Value) → Nat → Option Value
  | [], _ => none
  | (k, v) :: l, t => bif Nat.beq k t then some v else find l t

def evO (ss : List (Nat × Value)) : Operand → Option Value
  | .tmp t => find ss t
  | .const v => some v
  | .global g => some (.pointer (some ⟨g, 0, none⟩))
  | .func f => some (.func (.func f) #[] #[])

structure Fr (n : Nat) (ss : List (Nat × Value)) (a : Act) : Prop where
  sz : a.tmps.size = n
  df : a.defers = []
  ok : ∀ t v, find ss t = some v → a.tmps[t]? = some v

theorem Fr.ev {n : Nat} {ss : List (Nat × Value)} {a : Act} (h : Fr n ss a) {x : Operand} {v : Value} (hx : evO ss x = some v) : a.eval x = v := by
  cases x with
  | tmp t =>
    have := h.ok t v hx
    simp [Act.eval, Array.getD_eq_getD_getElem?, this]
  | const c => simpa [evO, Act.eval] using hx
  | global g => simpa [evO, Act.eval] using hx
  | func f => simpa [evO, Act.eval] using hx

theorem Fr.put {n : Nat} {ss : List (Nat × Value)} {a : Act} (h : Fr n ss a) {d : Nat} (hd : d < n) (v : Value) : Fr n ((d, v) :: ss) (a.put (some d) v) := by
  refine ⟨by simpa [Act.put] using h.sz, by simpa [Act.put] using h.df, fun t u hu => ?_⟩
  simp only [find] at hu
  cases hb : Nat.beq d t with
  | true =>
    rw [hb] at hu
    have e : d = t := Nat.eq_of_beq_eq_true hb
    subst e
    simp only [cond_true, Option.some.injEq] at hu
    subst hu
    simp [Act.put, Array.getElem?_setIfInBounds, h.sz, hd]
  | false =>
    rw [hb] at hu
    have e : d ≠ t := fun e => by subst e; simp at hb
    simp only [cond_false] at hu
    simp [Act.put, Array.getElem?_setIfInBounds, e, h.ok t u hu]

def Subs (ss : List (Nat × Value)) : List (Nat × Value) → Prop
  | [] => True
  | (k, v) :: l => find ss k = some v ∧ Subs ss l

theorem Subs.find {ss : List (Nat × Value)} : ∀ {l : List (Nat × Value)}, Subs ss l → ∀ t v, find l t = some v → Sx.find ss t = some v
  | [], _, t, v, h => by simp [Sx.find] at h
  | (k, x) :: l, hs, t, v, h => by
    simp only [Sx.find] at h
    cases hb : Nat.beq k t with
    | true =>
      rw [hb] at h
      have e : k = t := Nat.eq_of_beq_eq_true hb
      simp only [cond_true, Option.some.injEq] at h
      rw [← e, ← h]
      exact hs.1
    | false =>
      rw [hb] at h
      simp only [cond_false] at h
      exact hs.2.find t v h

theorem Fr.weak {n : Nat} {ss ss' : List (Nat × Value)} {a : Act} (h : Fr n ss a) (hs : Subs ss ss') : Fr n ss' a :=
  ⟨h.sz, h.df, fun t v ht => h.ok t v (hs.find t v ht)⟩

/-- A slot known to hold v. -/
theorem Fr.know {n : Nat} {ss : List (Nat × Value)} {a : Act} (h : Fr n ss a) {d : Nat} {u v : Value} (hd : find ss d = some u) (e : u = v) : Fr n ((d, v) :: ss) a := by
  refine ⟨h.sz, h.df, fun t x hx => ?_⟩
  simp only [find] at hx
  cases hb : Nat.beq d t with
  | true =>
    rw [hb] at hx
    have e' : d = t := Nat.eq_of_beq_eq_true hb
    subst e'
    simp only [cond_true, Option.some.injEq] at hx
    rw [← hx, ← e]
    exact h.ok d u hd
  | false =>
    rw [hb] at hx
    simp only [cond_false] at hx
    exact h.ok t x hx

/-! ### Worlds: the frame of a call that may write the blocks S -/
structure Frm (S : List Nat) (w0 w : World) : Prop where
  os : w.os = w0.os
  tape : w.tape = w0.tape
  output : w.output = w0.output
  size : w0.heap.size ≤ w.heap.size
  block : ∀ k, k < w0.heap.size → k ∉ S → w.heap[k]? = w0.heap[k]?

theorem Frm.refl (S : List Nat) (w : World) : Frm S w w := ⟨rfl, rfl, rfl, Nat.le_refl _, fun _ _ _ => rfl⟩
theorem Frm.trans {S T : List Nat} {w0 w w' : World} (h : Frm S w0 w) (k : Frm T w w') (hT : ∀ b ∈ T, b ∈ S ∨ w0.heap.size ≤ b) : Frm S w0 w' :=
  ⟨k.os.trans h.os, k.tape.trans h.tape, k.output.trans h.output, Nat.le_trans h.size k.size, fun i hi hS => by
    have h1 : i ∉ T := fun hm => by rcases hT i hm with h | h; exact hS h; omega
    exact (k.block i (Nat.lt_of_lt_of_le hi h.size) h1).trans (h.block i hi hS)⟩
theorem Frm.drewN {S : List Nat} {w0 w : World} (h : Frm S w0 w) (n : Nat) : Frm S w0 (w.drewN n) := ⟨h.os, h.tape, h.output, h.size, h.block⟩
theorem Frm.below {w0 w : World} (h : Frm [] w0 w) : Below w0.heap.size w0 w := ⟨h.os, h.tape, h.output, h.size, fun k hk => h.block k hk (by simp)⟩
theorem Frm.mono {S T : List Nat} {w0 w : World} (h : Frm S w0 w) (hs : ∀ b ∈ S, b ∈ T) : Frm T w0 w :=
  ⟨h.os, h.tape, h.output, h.size, fun k hk hn => h.block k hk (fun hm => hn (hs k hm))⟩
theorem Frm.alloc (w : World) (o : Obj) : Frm [] w (w.alloc o) :=
  ⟨rfl, rfl, rfl, by simp, fun k hk _ => by show (w.heap.push o)[k]? = _; rw [Array.getElem?_push, if_neg (by omega)]⟩
/-! ### What a call owns -/
structure It where
  fp : List Nat
  P : World → Prop
  st : ∀ w w', (∀ b ∈ fp, w'.heap[b]? = w.heap[b]?) → P w → P w'
  lt : ∀ w, P w → ∀ b ∈ fp, b < w.heap.size

def It.obj (b : Nat) (o : Obj) : It where
  fp := [b]
  P := fun w => w.heap[b]? = some o
  st := fun w w' h hp => (h b (by simp)).trans hp
  lt := fun w hp c hc => by
    have : c = b := by simpa using hc
    subst this
    exact (Array.getElem?_eq_some_iff.1 hp).1

/-- Block b holds the cells cs, of type E. -/
def It.blk (b : Nat) (E : TypeId) (cs : List Value) : It := It.obj b (.cells cs.toArray E (0, 0))

structure Sep (S : List Nat) (w0 w : World) (l : List It) : Prop where
  frm : Frm S w0 w
  all : ∀ i ∈ l, i.P w
  own : ∀ i ∈ l, ∀ b ∈ i.fp, b ∈ S ∨ w0.heap.size ≤ b
  dis : l.Pairwise fun i j => ∀ b ∈ i.fp, b ∉ j.fp

theorem Sep.refl (w : World) : Sep [] w w [] := ⟨Frm.refl _ _, by simp, by simp, by simp⟩

theorem Sep.drewN {S : List Nat} {w0 w : World} {l : List It} (h : Sep S w0 w l) (n : Nat) : Sep S w0 (w.drewN n) l :=
  ⟨h.frm.drewN n, fun i hi => i.st w _ (fun b _ => rfl) (h.all i hi), h.own, h.dis⟩

theorem Sep.sub {S : List Nat} {w0 w : World} {l l' : List It} (h : Sep S w0 w l) (hs : l'.Sublist l) : Sep S w0 w l' :=
  ⟨h.frm, fun i hi => h.all i (hs.subset hi), fun i hi => h.own i (hs.subset hi), h.dis.sublist hs⟩

theorem Sep.perm {S : List Nat} {w0 w : World} {l l' : List It} (h : Sep S w0 w l) (hs : l'.Perm l) : Sep S w0 w l' :=
  ⟨h.frm, fun i hi => h.all i (hs.subset hi), fun i hi => h.own i (hs.subset hi), (hs.pairwise_iff (fun {x y} hxy => fun b hb hb' => hxy b hb' hb)).2 h.dis⟩

theorem Sep.lt {S : List Nat} {w0 w : World} {l : List It} (h : Sep S w0 w l) {i : It} (hi : i ∈ l) {b : Nat} (hb : b ∈ i.fp) : b < w.heap.size :=
  i.lt w (h.all i hi) b hb

/-- A call that was given lT, may have written T, and leaves l': the rest lr stays. -/
theorem Sep.call {S T : List Nat} {w0 w w' : World} {lT lr l' : List It} (h : Sep S w0 w (lT ++ lr)) (hT : ∀ b ∈ T, ∃ i ∈ lT, b ∈ i.fp) (k : Sep T w w' l') : Sep S w0 w' (l' ++ lr) := by
  have hTS : ∀ b ∈ T, b ∈ S ∨ w0.heap.size ≤ b := fun b hb => by
    obtain ⟨i, hi, hbi⟩ := hT b hb
    exact h.own i (List.mem_append_left _ hi) b hbi
  have hd := List.pairwise_append.1 h.dis
  have hnT : ∀ i ∈ lr, ∀ b ∈ i.fp, b ∉ T := fun i hi b hb hbT => by
    obtain ⟨j, hj, hbj⟩ := hT b hbT
    exact hd.2.2 j hj i hi b hbj hb
  have hlt : ∀ i ∈ lr, ∀ b ∈ i.fp, b < w.heap.size := fun i hi b hb => h.lt (List.mem_append_right _ hi) hb
  refine ⟨h.frm.trans k.frm hTS, fun i hi => ?_, fun i hi b hb => ?_, ?_⟩
  · rcases List.mem_append.1 hi with hi | hi
    · exact k.all i hi
    · exact i.st w w' (fun b hb => k.frm.block b (hlt i hi b hb) (hnT i hi b hb)) (h.all i (List.mem_append_right _ hi))
  · rcases List.mem_append.1 hi with hi | hi
    · rcases k.own i hi b hb with h1 | h1
      · exact hTS b h1
      · exact .inr (Nat.le_trans h.frm.size h1)
    · exact h.own i (List.mem_append_right _ hi) b hb
  · refine List.pairwise_append.2 ⟨k.dis, hd.2.1, fun i hi j hj b hb hbj => ?_⟩
    rcases k.own i hi b hb with h1 | h1
    · exact hnT j hj b hbj h1
    · exact absurd (hlt j hj b hbj) (by omega)

theorem Sep.call0 {S : List Nat} {w0 w w' : World} {lr l' : List It} (h : Sep S w0 w lr) (k : Sep [] w w' l') : Sep S w0 w' (l' ++ lr) :=
  Sep.call (lT := []) (by simpa using h) (by simp) k

inductive Upd : List It → It → It → List It → Prop
  | head (i i' : It) (l : List It) : Upd (i :: l) i i' (i' :: l)
  | tail (x : It) {i i' : It} {l l' : List It} : Upd l i i' l' → Upd (x :: l) i i' (x :: l')

theorem Upd.perm {l l' : List It} {i i' : It} (h : Upd l i i' l') : ∃ r, l.Perm (i :: r) ∧ l'.Perm (i' :: r) := by
  induction h with
  | head i i' l => exact ⟨l, .refl _, .refl _⟩
  | tail x h ih =>
    obtain ⟨r, h1, h2⟩ := ih
    exact ⟨x :: r, (h1.cons x).trans (.swap _ _ _), (h2.cons x).trans (.swap _ _ _)⟩

/-- One item is written (and may move to new memory); all else stays. -/
theorem Sep.upd {S : List Nat} {w0 w w' : World} {l l' : List It} {i i' : It} (h : Sep S w0 w l) (u : Upd l i i' l') (k : Frm i.fp w w') (hP : i'.P w')
    (hfp : ∀ b ∈ i'.fp, b ∈ i.fp ∨ w.heap.size ≤ b) : Sep S w0 w' l' := by
  obtain ⟨r, h1, h2⟩ := u.perm
  have hs : Sep S w0 w ([i] ++ r) := h.perm h1.symm
  have hk : Sep i.fp w w' [i'] := ⟨k, by simpa using hP, by simpa using hfp, by simp⟩
  exact (Sep.call hs (fun b hb => ⟨i, by simp, hb⟩) hk).perm h2

theorem Sep.add {S : List Nat} {w0 w w' : World} {l : List It} {i' : It} (h : Sep S w0 w l) (k : Frm [] w w') (hP : i'.P w') (hfp : ∀ b ∈ i'.fp, w.heap.size ≤ b) : Sep S w0 w' (i' :: l) :=
  Sep.call0 (l' := [i']) h ⟨k, by simpa using hP, fun i hi b hb => .inr (by have : i = i' := by simpa using hi
                                                                            subst this; exact hfp b hb), by simp⟩

theorem Sep.alloc {S : List Nat} {w0 w : World} {l : List It} (h : Sep S w0 w l) (o : Obj) : Sep S w0 (w.alloc o) (It.obj w.heap.size o :: l) :=
  h.add (Frm.alloc w o) (by show (w.heap.push o)[w.heap.size]? = some o; simp) (by simp [It.obj])

/-! ### The state of a walk -/
structure St (n : Nat) (S : List Nat) (w0 : World) (ss : List (Nat × Value)) (l : List It) (a : Act) (w : World) : Prop where
  fr : Fr n ss a
  sep : Sep S w0 w l

theorem St.weak {n : Nat} {S : List Nat} {w0 : World} {ss ss' : List (Nat × Value)} {l l' : List It} {a : Act} {w : World} (h : St n S w0 ss l a w) (hs : Subs ss ss') (hl : l = l') : St n S w0 ss' l' a w :=
  ⟨h.fr.weak hs, hl ▸ h.sep⟩
theorem St.drop {n : Nat} {S : List Nat} {w0 : World} {ss : List (Nat × Value)} {l l' : List It} {a : Act} {w : World} (h : St n S w0 ss l a w) (hl : l'.Sublist l) : St n S w0 ss l' a w :=
  ⟨h.fr, h.sep.sub hl⟩
theorem St.know {n : Nat} {S : List Nat} {w0 : World} {ss : List (Nat × Value)} {l : List It} {a : Act} {w : World} (h : St n S w0 ss l a w) {d : Nat} {u v : Value} (hd : find ss d = some u) (e : u = v) : St n S w0 ((d, v) :: ss) l a w :=
  ⟨h.fr.know hd e, h.sep⟩

/-- What a call leaves: it returns; v and the items are told by Φ. -/
def Post (S : List Nat) (w : World) (Φ : Value → List It → Prop) : Ending → World → Prop :=
  fun e w' => ∃ v l, e = .returned v ∧ Φ v l ∧ Sep S w w' l

/-- .. one value, no memory handed back. -/
def Gives (v : Value) (S : List Nat) (w : World) : Ending → World → Prop := Post S w fun u l => u = v ∧ l = []

/-! ### Short names for what walks say again and again -/
theorem Mh {α : Type} {a : α} {l : List α} : a ∈ a :: l := List.Mem.head _
theorem Mt {α : Type} {a b : α} {l : List α} (h : a ∈ l) : a ∈ b :: l := List.Mem.tail _ h
theorem Uh {i i' : It} {l : List It} : Upd (i :: l) i i' (i' :: l) := Upd.head _ _ _
theorem Ut {x i i' : It} {l l' : List It} (h : Upd l i i' l') : Upd (x :: l) i i' (x :: l') := Upd.tail _ h
theorem S0 {l : List It} : ([] : List It).Sublist l := List.nil_sublist _
theorem S1 {l : List It} : l.Sublist l := List.Sublist.refl _
theorem S2 {x : It} {l l' : List It} (h : l.Sublist l') : (x :: l).Sublist (x :: l') := h.cons_cons x
theorem S3 {x : It} {l l' : List It} (h : l.Sublist l') : l.Sublist (x :: l') := h.cons x
end Go.Sx
