/- Own words: functions as values; calls that are given several items. -/
import Derived.Test.YtaeahloenahelaaDoorSxN
set_option linter.unusedVariables false
set_option linter.unusedSimpArgs false
namespace Go.Sx
open Go.RowKit
variable {P : Program} {n : Nat} {S : List Nat} {w0 w : World} {ss : List (Nat × Value)} {l : List It} {o : Oper} {a : Act}
variable {ops : Array Oper} {Q : Exit → Act → World → Prop} {rest : List Oper}
/-- A function value with what it holds. -/
theorem y_fn {f : Fn} {xs ys : List Operand} {us vs : List Value} (ho : o.op = .makeFunc f xs.toArray ys.toArray) (hx : evs ss xs = some us) (hy : evs ss ys = some vs) : Yld P n S w0 ss l o (.func f us.toArray vs.toArray) := by
  intro a w F _
  have h1 := evs_map F hx
  have h2 := evs_map F hy
  simp [execOp, ho, Instr.makeFunc, List.map_toArray, h1, h2]
/-- A call that runs a function of the program on arguments. -/
def Enters (P : Program) (n : Nat) (ss : List (Nat × Value)) (o : Oper) (f : FuncId) (args : List Value) : Prop := ∀ a w, Fr n ss a → (execOp a.eval o).run P w = .ok (.enter f args.toArray) w
theorem enters_call {f : FuncId} {xs : List Operand} {ts : Array TypeId} {args : List Value} (ho : o.op = .call { callee := .value (.func f), args := xs.toArray, argTypes := ts }) (hc : callB P f = true) (ha : evs ss xs = some args) : Enters P n ss o f args :=
  fun _ _ F => run_call ho hc F ha
theorem enters_callv {g : Operand} {f : FuncId} {fs cs : List Value} {xs : List Operand} {ts : Array TypeId} {args all : List Value} (ho : o.op = .call { callee := .value g, args := xs.toArray, argTypes := ts }) (hg : evO ss g = some (.func (.func f) fs.toArray cs.toArray)) (hc : callB P f = true) (ha : evs ss xs = some args) (hall : fs ++ args ++ cs = all) : Enters P n ss o f all :=
  fun _ _ F => run_callv ho hg hc F ha (by simpa using hall)
/-- One item of several. -/
inductive Pick : List It → It → List It → Prop
  | head (i : It) (l : List It) : Pick (i :: l) i l
  | tail (x : It) {i : It} {l r : List It} : Pick l i r → Pick (x :: l) i (x :: r)
theorem Pick.perm {l r : List It} {i : It} (h : Pick l i r) : l.Perm (i :: r) := by
  induction h with
  | head i l => exact .refl _
  | tail x h ih => exact (ih.cons x).trans (.swap _ _ _)
theorem Ph {i : It} {l : List It} : Pick (i :: l) i l := .head i l
theorem Pt {x i : It} {l r : List It} (h : Pick l i r) : Pick (x :: l) i (x :: r) := .tail x h
inductive Picks : List It → List It → List It → Prop
  | nil (l : List It) : Picks l [] l
  | cons {l m r is : List It} {i : It} : Pick l i m → Picks m is r → Picks l (i :: is) r
theorem Picks.perm {l r is : List It} (h : Picks l is r) : l.Perm (is ++ r) := by
  induction h with
  | nil l => exact .refl _
  | cons h _ ih => exact h.perm.trans (ih.cons _)
def fps (l : List It) : List Nat := l.flatMap It.fp
theorem mem_fps {l : List It} {b : Nat} (h : b ∈ fps l) : ∃ i ∈ l, b ∈ i.fp := List.mem_flatMap.1 h
/-- A call that is given some items, and leaves others. -/
theorem st_callk {d : Nat} {f : FuncId} {args : List Value} {is lr : List It} {Φ : Value → List It → Prop} (he : Enters P n ss o f args) (hw : wantB ops ss o = some true) (hd : o.dst = some d) (hn : Nat.ble (d + 1) n = true) (H : St n S w0 ss l a w)
    (hp : Picks l is lr) (hk : Calls P f args.toArray w (Post (fps is) w Φ)) (K : ∀ v l' a' w', Φ v l' → St n S w0 ((d, v) :: ss) (l' ++ lr) a' w' → wpList P ops Q rest a' w') : wpList P ops Q (o :: rest) a w :=
  st_enter (lT := is) (he a w H.fr) hw hd hn ⟨H.fr, H.sep.perm hp.perm.symm⟩ (fun b hb => mem_fps hb) hk K
/-- What a call is given stands by itself. -/
theorem Sep.given {is lr : List It} (H : Sep S w0 w l) (hp : Picks l is lr) : Sep (fps is) w w is := by
  have h := (H.perm hp.perm.symm)
  refine ⟨Frm.refl _ _, fun i hi => h.all i (List.mem_append_left _ hi), fun i hi b hb => .inl (List.mem_flatMap.2 ⟨i, hi, hb⟩), (List.pairwise_append.1 h.dis).1⟩
theorem fps_new {is lr : List It} {T : List (BitVec 32)} {g : Nat} (H : Sep [] w0 w l) (hp : Picks l is lr) (hG : Glob g T w0) (hT : 0 < T.length) : g ∉ fps is := fun hm => by
  have h := (H.perm hp.perm.symm)
  obtain ⟨i, hi, hb⟩ := mem_fps hm
  have h1 := World.block_lt_of_cell? w0 _ (hG 0 hT)
  rcases h.own i (List.mem_append_left _ hi) g hb with h2 | h2
  · cases h2
  · have h1 : g < w0.heap.size := h1
    omega
/-- .. with what it may lean on. -/
theorem st_callk1 {d : Nat} {f : FuncId} {args : List Value} {is lr : List It} {Φ : Value → List It → Prop} (he : Enters P n ss o f args) (hw : wantB ops ss o = some true) (hd : o.dst = some d) (hn : Nat.ble (d + 1) n = true) (H : St n [] w0 ss l a w)
    (hp : Picks l is lr) (hk : Sep (fps is) w w is → (∀ g (T : List (BitVec 32)), Glob g T w0 → 0 < T.length → g ∉ fps is) → Calls P f args.toArray w (Post (fps is) w Φ)) (K : ∀ v l' a' w', Φ v l' → St n [] w0 ((d, v) :: ss) (l' ++ lr) a' w' → wpList P ops Q rest a' w') : wpList P ops Q (o :: rest) a w :=
  st_callk he hw hd hn H hp (hk (Sep.given H.sep hp) (fun _ _ hG hT => fps_new H.sep hp hG hT)) K
end Go.Sx
