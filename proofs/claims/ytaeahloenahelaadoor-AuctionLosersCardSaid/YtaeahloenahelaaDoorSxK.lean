/- Own words: functions as values; calls that are given several items. -/
import Derived.Test.YtaeahloenahelaaDoorSxN
set_option linter.unusedVariables false
set_option linter.unusedSimpArgs false
namespace Go.Sx
open Go.RowKit
variable {P : Program} {n : Nat} {S : List Nat} {w0 w : World} {ss : List (Nat × Value)} {l : List It} {o : Oper} {a : Act}
variable {ops : Array Oper} {Q : Exit → Act → World → Prop} {rest : List Oper}
theorem y_max2 {x y : Operand} {t u : TypeId} {k : IntKind} {p q : Int} (ho : o.op = .call { callee := .builtin .max, args := #[x, y], argTypes := #[t, u] }) (hx : evO ss x = some (.int k p)) (hy : evO ss y = some (.int k q)) : Yld P n S w0 ss l o (.int k (max p q)) := by
  intro a w F _
  have e : (if p < q then q else p) = max p q := by split <;> omega
  simp [execOp, ho, F.ev hx, F.ev hy, resolve, invoke, builtin, Builtin.max_, Builtin.max2, e]
theorem lay_agg2 {z : Nat} {base vs us : List Value} {v u : Value} (hv : v.cells.toList = vs) (hu : u.cells.toList = us) (hz : vs.length = z) (hy : us.length = z) (hb : base.length = 2 * z) : lay (fun i => some (i * z, z)) base [(0, v), (1, u)] = some (vs ++ us) := by
  have e1 : spl base 0 vs = vs ++ base.drop z := by unfold spl; rw [List.take_zero, List.nil_append, Nat.zero_add, hz]
  have e2 : spl (vs ++ base.drop z) z us = vs ++ us := by
    unfold spl
    rw [List.take_left' hz, hy, List.drop_eq_nil_of_le (by rw [List.length_append, List.length_drop, hz, hb]; omega), List.append_nil]
  have h1 : ¬ (vs.length ≠ z ∨ base.length < 0 + z) := by omega
  have h2 : ¬ (us.length ≠ z ∨ (vs ++ base.drop z).length < z + z) := by rw [List.length_append, List.length_drop]; omega
  unfold lay
  simp only [hv, Nat.zero_mul, if_neg h1, e1]
  unfold lay
  simp only [hu, Nat.one_mul, if_neg h2, e2]
  rfl
/-- A call that runs a function of the program on arguments. -/
def Enters (P : Program) (n : Nat) (ss : List (Nat × Value)) (o : Oper) (f : FuncId) (args : List Value) : Prop := ∀ a w, Fr n ss a → (execOp a.eval o).run P w = .ok (.enter f args.toArray) w
theorem enters_callv {g : Operand} {f : FuncId} {fs cs : List Value} {xs : List Operand} {ts : Array TypeId} {args all : List Value} (ho : o.op = .call { callee := .value g, args := xs.toArray, argTypes := ts }) (hg : evO ss g = some (.func (.func f) fs.toArray cs.toArray)) (hc : callB P f = true) (ha : evs ss xs = some args) (hall : fs ++ args ++ cs = all) : Enters P n ss o f all :=
  fun _ _ F => run_callv ho hg hc F ha (by simpa using hall)
/-- One item of several. -/
inductive Pick : List It → It → List It → Prop
  | head (i : It) (l : List It) : Pick (i :: l) i l
  | tail (x : It) {i : It} {l r : List It} : Pick l i r → Pick (x :: l) i (x :: r)
theorem Pick.perm {l r : List It} {i : It} (h : Pick l i r) : l.Perm (i :: r) := by
  induction h with
  | head i l => exact .refl _
  | tail x h ih => exact (ih.cons x).trans (.swap _ _ _)
inductive Picks : List It → List It → List It → Prop
  | nil (l : List It) : Picks l [] l
  | cons {l m r is : List It} {i : It} : Pick l i m → Picks m is r → Picks l (i :: is) r
theorem Picks.perm {l r is : List It} (h : Picks l is r) : l.Perm (is ++ r) := by
  induction h with
  | nil l => exact .refl _
  | cons h _ ih => exact h.perm.trans (ih.cons _)
def fps (l : List It) : List Nat := l.flatMap It.fp
/-- What a call is given stands by itself. -/
theorem Sep.given {is lr : List It} (H : Sep S w0 w l) (hp : Picks l is lr) : Sep (fps is) w w is := by
  have h := (H.perm hp.perm.symm)
  refine ⟨Frm.refl _ _, fun i hi => h.all i (List.mem_append_left _ hi), fun i hi b hb => .inl (List.mem_flatMap.2 ⟨i, hi, hb⟩), (List.pairwise_append.1 h.dis).1⟩
end Go.Sx
