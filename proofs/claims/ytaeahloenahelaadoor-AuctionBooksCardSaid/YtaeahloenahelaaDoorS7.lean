/- Part of a proof about given Go functions: contracts of functions, or plain laws. -/
import Derived.Test.YtaeahloenahelaaDoorS6
import Derived.Test.YtaeahloenahelaaDoorS5
import Derived.Test.YtaeahloenahelaaDoorS4
/- Own words: maps with integer keys that a call owns. -/
set_option linter.unusedVariables false
set_option linter.unusedSimpArgs false
namespace Go.Sx
open Go.RowKit
/-- What a list of entries holds at a key. -/
def mf : List MapEntry → Int → Option Value
  | [], _ => none
  | e :: es, k => match e.key with
    | .int .i64 a => if a = k then some e.val else mf es k
    | _ => mf es k
structure MapOk (es : List MapEntry) (clock : Nat) (f : Int → Option Value) : Prop where
  keys : ∀ e ∈ es, ∃ a, e.key = .int .i64 a
  apart : es.Pairwise fun x y => x.key ≠ y.key
  at_ : ∀ k, mf es k = f k
  old : ∀ e ∈ es, e.born < clock
  born : es.Pairwise fun x y => x.born ≠ y.born
theorem mf_none {es : List MapEntry} {k : Int} (h : mf es k = none) : ∀ e ∈ es, e.key ≠ .int .i64 k := by
  induction es with
  | nil => intro e he; cases he
  | cons x es ih =>
    intro e he hk
    simp only [mf] at h
    rcases List.mem_cons.1 he with rfl | he
    · rw [hk] at h; simp at h
    · refine ih ?_ e he hk
      split at h
      · split at h
        · simp at h
        · exact h
      · exact h
theorem findNow_none {es : List MapEntry} {k : Int} (hk : ∀ e ∈ es, ∃ a, e.key = .int .i64 a) (h : mf es k = none) : ∀ i, Instr.findNow (.int .i64) (.int .i64 k) es i = some none := by
  induction es with
  | nil => intro i; rfl
  | cons x es ih =>
    intro i
    obtain ⟨a, ha⟩ := hk x List.mem_cons_self
    have hn := mf_none h x List.mem_cons_self
    have hak : ¬ k = a := fun e => hn (by rw [ha, e])
    have h' : mf es k = none := by
      simp only [mf, ha] at h
      rw [if_neg (fun e => hak e.symm)] at h
      exact h
    have hb : (k == a) = false := beq_eq_false_iff_ne.2 hak
    simp only [Instr.findNow, ha, Instr.sameNow, if_true, hb]
    exact ih (fun e he => hk e (List.mem_cons_of_mem _ he)) h' (i + 1)
theorem findNow_some {es : List MapEntry} {k : Int} {v : Value} (hk : ∀ e ∈ es, ∃ a, e.key = .int .i64 a) (h : mf es k = some v) : ∃ j e, es[j]? = some e ∧ e.key = .int .i64 k ∧ e.val = v ∧ ∀ i, Instr.findNow (.int .i64) (.int .i64 k) es i = some (some (i + j, v)) := by
  induction es with
  | nil => simp [mf] at h
  | cons x es ih =>
    obtain ⟨a, ha⟩ := hk x List.mem_cons_self
    by_cases hak : a = k
    · subst hak
      simp only [mf, ha, if_true] at h
      refine ⟨0, x, rfl, ha, by simpa using h, fun i => ?_⟩
      simp only [Instr.findNow, ha, Instr.sameNow]
      simpa using h
    · have h' : mf es k = some v := by
        simp only [mf, ha] at h
        rw [if_neg hak] at h
        exact h
      obtain ⟨j, e, h1, h2, h3, h4⟩ := ih (fun e he => hk e (List.mem_cons_of_mem _ he)) h'
      refine ⟨j + 1, e, by simpa using h1, h2, h3, fun i => ?_⟩
      have hak' : ¬ k = a := fun e => hak e.symm
      have hb : (k == a) = false := beq_eq_false_iff_ne.2 hak'
      simp only [Instr.findNow, ha, Instr.sameNow, if_true, hb]
      rw [h4 (i + 1), show i + 1 + j = i + (j + 1) by omega]
theorem mf_append (es : List MapEntry) (x : MapEntry) (k a : Int) (hk : ∀ e ∈ es, ∃ a, e.key = .int .i64 a) (hx : x.key = .int .i64 a) (h : mf es a = none) : mf (es ++ [x]) k = if k = a then some x.val else mf es k := by
  induction es with
  | nil =>
    simp only [List.nil_append, mf, hx]
    by_cases hak : a = k
    · subst hak; simp
    · rw [if_neg hak, if_neg (fun e => hak e.symm)]
  | cons y es ih =>
    obtain ⟨b, hb⟩ := hk y List.mem_cons_self
    simp only [List.cons_append, mf, hb] at h ⊢
    split at h
    · simp at h
    · rename_i hba
      have ih' := ih (fun e he => hk e (List.mem_cons_of_mem _ he)) h
      by_cases hbk : b = k
      · subst hbk
        rw [if_pos rfl, if_pos rfl, if_neg hba]
      · rw [if_neg hbk, if_neg hbk]
        exact ih'
theorem mf_modify {es : List MapEntry} {j : Nat} {e : MapEntry} {k : Int} {g : MapEntry → MapEntry} {u : Value} (hk : ∀ e ∈ es, ∃ a, e.key = .int .i64 a) (hp : es.Pairwise fun x y => x.key ≠ y.key) (hj : es[j]? = some e) (he : e.key = .int .i64 k) (hg : (g e).key = .int .i64 k ∧ (g e).val = u) (a : Int) :
    mf (es.modify j g) a = if a = k then some u else mf es a := by
  induction es generalizing j with
  | nil => simp at hj
  | cons x es ih =>
    obtain ⟨b, hb⟩ := hk x List.mem_cons_self
    cases j with
    | zero =>
      obtain rfl : x = e := by simpa using hj
      have hbk : b = k := by rw [hb] at he; injection he
      subst hbk
      simp only [List.modify_zero_cons, mf, hg.1, hg.2, hb]
      by_cases hak : b = a
      · subst hak; simp
      · rw [if_neg hak, if_neg hak, if_neg (fun e => hak e.symm)]
    | succ j =>
      have hj' : es[j]? = some e := by simpa using hj
      have hm : e ∈ es := List.mem_of_getElem? hj'
      have hne := (List.pairwise_cons.1 hp).1 e hm
      have hbk : ¬ b = k := fun h => hne (by rw [hb, he, h])
      simp only [List.modify_succ_cons, mf, hb]
      by_cases hak : b = a
      · subst hak
        rw [if_pos rfl, if_pos rfl, if_neg hbk]
      · rw [if_neg hak, if_neg hak]
        exact ih (fun e he => hk e (List.mem_cons_of_mem _ he)) (List.pairwise_cons.1 hp).2 hj'
theorem mf_erase {es : List MapEntry} {j : Nat} {e : MapEntry} {k : Int} (hk : ∀ e ∈ es, ∃ a, e.key = .int .i64 a) (hp : es.Pairwise fun x y => x.key ≠ y.key) (hj : es[j]? = some e) (he : e.key = .int .i64 k) (a : Int) :
    mf (es.eraseIdx j) a = if a = k then none else mf es a := by
  induction es generalizing j with
  | nil => simp at hj
  | cons x es ih =>
    obtain ⟨b, hb⟩ := hk x List.mem_cons_self
    cases j with
    | zero =>
      obtain rfl : x = e := by simpa using hj
      have hbk : b = k := by rw [hb] at he; injection he
      subst hbk
      simp only [List.eraseIdx_zero, List.tail_cons, mf, hb]
      by_cases hak : b = a
      · subst hak
        rw [if_pos rfl]
        cases hm : mf es b with
        | none => rfl
        | some v =>
          exfalso
          obtain ⟨j', e', h1, h2, _⟩ := findNow_some (fun e he => hk e (List.mem_cons_of_mem _ he)) hm
          exact (List.pairwise_cons.1 hp).1 e' (List.mem_of_getElem? h1) (by rw [hb, h2])
      · rw [if_neg hak, if_neg (fun e => hak e.symm)]
    | succ j =>
      have hj' : es[j]? = some e := by simpa using hj
      have hm : e ∈ es := List.mem_of_getElem? hj'
      have hne := (List.pairwise_cons.1 hp).1 e hm
      have hbk : ¬ b = k := fun h => hne (by rw [hb, he, h])
      simp only [List.eraseIdx_cons_succ, mf, hb]
      by_cases hak : b = a
      · subst hak
        rw [if_pos rfl, if_pos rfl, if_neg hbk]
      · rw [if_neg hak, if_neg hak]
        exact ih (fun e he => hk e (List.mem_cons_of_mem _ he)) (List.pairwise_cons.1 hp).2 hj'
/-- A map with one key set. -/
def mset (f : Int → Option Value) (k : Int) (v : Value) : Int → Option Value := fun a => if a = k then some v else f a
def mdel (f : Int → Option Value) (k : Int) : Int → Option Value := fun a => if a = k then none else f a
theorem pairwise_modify {r : MapEntry → MapEntry → Prop} {g : MapEntry → MapEntry} : ∀ {es : List MapEntry} {j : Nat} {e : MapEntry}, es[j]? = some e → es.Pairwise r → (∀ x ∈ es, r x e → r x (g e)) → (∀ x ∈ es, r e x → r (g e) x) → (es.modify j g).Pairwise r
  | [], j, e, h, _, _, _ => by simp at h
  | x :: es, 0, e, h, hp, _, h2 => by
    obtain rfl : x = e := by simpa using h
    rw [List.modify_zero_cons]
    exact List.pairwise_cons.2 ⟨fun y hy => h2 y (List.mem_cons_of_mem _ hy) ((List.pairwise_cons.1 hp).1 y hy), (List.pairwise_cons.1 hp).2⟩
  | x :: es, j + 1, e, h, hp, h1, h2 => by
    have h' : es[j]? = some e := by simpa using h
    rw [List.modify_succ_cons]
    refine List.pairwise_cons.2 ⟨fun y hy => ?_, pairwise_modify h' (List.pairwise_cons.1 hp).2 (fun x hx => h1 x (List.mem_cons_of_mem _ hx)) (fun x hx => h2 x (List.mem_cons_of_mem _ hx))⟩
    rcases List.mem_iff_getElem?.1 hy with ⟨i, hi⟩
    rw [List.getElem?_modify] at hi
    by_cases hij : j = i
    · subst hij
      rw [h'] at hi
      simp only [if_true, Option.map_eq_map, Option.map_some, Option.some.injEq] at hi
      rw [← hi]
      exact h1 x List.mem_cons_self ((List.pairwise_cons.1 hp).1 e (List.mem_of_getElem? h'))
    · simp only [if_neg hij] at hi
      cases hi' : es[i]? with
      | none => rw [hi'] at hi; simp at hi
      | some z =>
        rw [hi'] at hi
        simp only [Option.map_eq_map, Option.map_some, Option.some.injEq] at hi
        rw [← hi]
        exact (List.pairwise_cons.1 hp).1 z (List.mem_of_getElem? hi')
theorem mem_modify {g : MapEntry → MapEntry} {es : List MapEntry} {j : Nat} {x : MapEntry} (h : x ∈ es.modify j g) : x ∈ es ∨ ∃ e, es[j]? = some e ∧ x = g e := by
  rcases List.mem_iff_getElem?.1 h with ⟨i, hi⟩
  rw [List.getElem?_modify] at hi
  cases hi' : es[i]? with
  | none => rw [hi'] at hi; simp at hi
  | some z =>
    rw [hi'] at hi
    by_cases hij : j = i
    · subst hij
      exact .inr ⟨z, hi', by simpa using hi.symm⟩
    · simp only [if_neg hij] at hi
      refine .inl (List.mem_of_getElem? (i := i) ?_)
      rw [hi']
      simpa using hi
theorem MapOk.mod {es : List MapEntry} {clock : Nat} {f : Int → Option Value} (h : MapOk es clock f) {j : Nat} {e : MapEntry} {k : Int} {u : Value} {g : MapEntry → MapEntry} (hj : es[j]? = some e) (he : e.key = .int .i64 k) (hg : (g e).key = .int .i64 k) (hu : (g e).val = u) (hb : (g e).born = e.born) : MapOk (es.modify j g) clock (mset f k u) where
  keys := fun x hx => by
    rcases mem_modify hx with hx | ⟨e', h1, rfl⟩
    · exact h.keys x hx
    · obtain rfl : e = e' := by rw [hj] at h1; exact Option.some.inj h1
      exact ⟨k, hg⟩
  apart := pairwise_modify hj h.apart (fun x _ hx => by rw [hg, ← he]; exact hx) (fun x _ hx => by rw [hg, ← he]; exact hx)
  at_ := fun a => by rw [mf_modify h.keys h.apart hj he ⟨hg, hu⟩, h.at_]; rfl
  old := fun x hx => by
    rcases mem_modify hx with hx | ⟨e', h1, rfl⟩
    · exact h.old x hx
    · obtain rfl : e = e' := by rw [hj] at h1; exact Option.some.inj h1
      rw [hb]
      exact h.old e (List.mem_of_getElem? hj)
  born := pairwise_modify hj h.born (fun x _ hx => by rw [hb]; exact hx) (fun x _ hx => by rw [hb]; exact hx)
theorem MapOk.push {es : List MapEntry} {clock : Nat} {f : Int → Option Value} (h : MapOk es clock f) {k : Int} {u : Value} (hn : f k = none) : MapOk (es ++ [⟨.int .i64 k, u, clock⟩]) (clock + 1) (mset f k u) where
  keys := fun x hx => by
    rcases List.mem_append.1 hx with hx | hx
    · exact h.keys x hx
    · rw [List.mem_singleton.1 hx]; exact ⟨k, rfl⟩
  apart := by
    refine List.pairwise_append.2 ⟨h.apart, List.pairwise_singleton _ _, fun x hx y hy => ?_⟩
    rw [List.mem_singleton.1 hy]
    exact mf_none (by rw [h.at_, hn]) x hx
  at_ := fun a => by rw [mf_append _ _ _ k h.keys rfl (by rw [h.at_, hn]), h.at_]; rfl
  old := fun x hx => by
    rcases List.mem_append.1 hx with hx | hx
    · have := h.old x hx; omega
    · rw [List.mem_singleton.1 hx]; exact Nat.lt_succ_self _
  born := by
    refine List.pairwise_append.2 ⟨h.born, List.pairwise_singleton _ _, fun x hx y hy => ?_⟩
    rw [List.mem_singleton.1 hy]
    have := h.old x hx
    show x.born ≠ clock
    omega
theorem MapOk.erase {es : List MapEntry} {clock : Nat} {f : Int → Option Value} (h : MapOk es clock f) {j : Nat} {e : MapEntry} {k : Int} (hj : es[j]? = some e) (he : e.key = .int .i64 k) : MapOk (es.eraseIdx j) clock (mdel f k) where
  keys := fun x hx => h.keys x (List.mem_of_mem_eraseIdx hx)
  apart := h.apart.sublist (List.eraseIdx_sublist _ _)
  at_ := fun a => by rw [mf_erase h.keys h.apart hj he, h.at_]; rfl
  old := fun x hx => h.old x (List.mem_of_mem_eraseIdx hx)
  born := h.born.sublist (List.eraseIdx_sublist _ _)
theorem MapOk.empty : MapOk [] 0 (fun _ => none) := ⟨by simp, List.Pairwise.nil, fun _ => rfl, by simp, List.Pairwise.nil⟩
theorem mdel_none {f : Int → Option Value} {k : Int} (h : f k = none) : mdel f k = f := by
  funext a
  unfold mdel
  split
  · rename_i e; rw [e, h]
  · rfl
/-! ### Items -/
/-- Block g is a map of f. -/
def It.mp (g : Nat) (f : Int → Option Value) : It where
  fp := [g]
  P := fun w => ∃ es clock, w.heap[g]? = some (.map es clock) ∧ MapOk es.toList clock f
  st := fun w w' h hp => by
    obtain ⟨es, c, h1, h2⟩ := hp
    exact ⟨es, c, (h g (by simp)).trans h1, h2⟩
  lt := fun w hp b hb => by
    obtain ⟨es, c, h1, h2⟩ := hp
    have : b = g := by simpa using hb
    subst this
    exact (Array.getElem?_eq_some_iff.1 h1).1
def putObj (w : World) (g : Nat) (o : Obj) : World := { w with heap := w.heap.setIfInBounds g o }
theorem putObj_frm {w : World} {g : Nat} (o : Obj) : Frm [g] w (putObj w g o) :=
  ⟨rfl, rfl, rfl, by simp [putObj], fun k hk hn => by
    have h : ¬ g = k := by
      intro e
      exact hn (by simp [e])
    simp only [putObj, Array.getElem?_setIfInBounds, h, if_false]⟩
theorem putObj_at {w : World} {g : Nat} {o o' : Obj} (h : w.heap[g]? = some o') : (putObj w g o).heap[g]? = some o := by
  have h1 := (Array.getElem?_eq_some_iff.1 h).1
  simp [putObj, Array.getElem?_setIfInBounds, h1]
theorem run_getMap {P : Program} {w : World} {g c : Nat} {es : Array MapEntry} (h : w.heap[g]? = some (.map es c)) : (getObj g).run P w = .ok (.map es c) w := by simp [getObj, Sem.run, h]
theorem run_setMap {P : Program} {w : World} {g c : Nat} {es : Array MapEntry} (h : w.heap[g]? = some (.map es c)) (o : Obj) : (setObj g o).run P w = .ok () (putObj w g o) := by simp [setObj, Sem.run, h, putObj]
theorem run_keyInt {P : Program} {w : World} {kt : TypeId} (hk : P.underlying kt = some (.int .i64)) (b : Bool) (k : Int) : (Instr.checkKey b 10000 kt (.int .i64 k)).run P w = .ok () w := by
  have h : ∀ m : Nat, (Instr.checkKey b (m + 1) kt (.int .i64 k)).run P w = .ok () w := fun m => by
    unfold Instr.checkKey
    simp [Sem.run_bind, run_underlying hk, Result.andThen]
  exact h 9999
theorem run_findNone {P : Program} {w : World} {kt : TypeId} (hk : P.underlying kt = some (.int .i64)) {es : List MapEntry} {c : Nat} {f : Int → Option Value} (h : MapOk es c f) {k : Int} (hf : f k = none) : (Instr.findKey kt (.int .i64 k) es).run P w = .ok none w := by
  simp [Instr.findKey, run_underlying hk, findNow_none h.keys (by rw [h.at_, hf] : mf es k = none)]
theorem run_findSome {P : Program} {w : World} {kt : TypeId} (hk : P.underlying kt = some (.int .i64)) {es : List MapEntry} {c : Nat} {f : Int → Option Value} (h : MapOk es c f) {k : Int} {v : Value} (hf : f k = some v) :
    ∃ j e, es[j]? = some e ∧ e.key = .int .i64 k ∧ e.val = v ∧ (Instr.findKey kt (.int .i64 k) es).run P w = .ok (some (j, v)) w := by
  obtain ⟨j, e, h1, h2, h3, h4⟩ := findNow_some h.keys (by rw [h.at_, hf] : mf es k = some v)
  refine ⟨j, e, h1, h2, h3, ?_⟩
  have h5 := h4 0
  rw [Nat.zero_add] at h5
  simp [Instr.findKey, run_underlying hk, h5]
theorem run_keyStays {P : Program} {w : World} (k : Int) : (Instr.keyThatStays (.int .i64 k) (.int .i64 k)).run P w = .ok (.int .i64 k) w := by
  have h : ∀ m : Nat, Instr.sameBits (m + 1) (.int .i64 k) (.int .i64 k) = true := fun m => by simp [Instr.sameBits]
  unfold Instr.keyThatStays
  rw [if_pos (h 9999)]
  rfl
theorem run_zeroV {P : Program} {w : World} {t : TypeId} {z : Value} (h : (P.info? t).bind (·.zero) = some z) : (zeroValue t).run P w = .ok z w := by
  cases hi : P.info? t with
  | none => simp [hi] at h
  | some i =>
    have hz : i.zero = some z := by simpa [hi] using h
    simp [zeroValue, typeInfo, hi, hz]
theorem toList_at {es : Array MapEntry} {j : Nat} {e : MapEntry} (h : es.toList[j]? = some e) : es[j]? = some e := by simpa using h
section
variable {P : Program} {n : Nat} {S : List Nat} {w0 : World} {ss : List (Nat × Value)} {l : List It} {o : Oper}
theorem lk_run {a : Act} {w : World} {t kt et : TypeId} {x ix : Operand} {g : Nat} {k : Int} {f : Int → Option Value} {z : Value} (ho : o.op = .lookup t x ix false) (ht : P.underlying t = some (.map kt et)) (hk : P.underlying kt = some (.int .i64)) (hz : (P.info? et).bind (·.zero) = some z)
    (hx : evO ss x = some (.map (some g))) (hi : evO ss ix = some (.int .i64 k)) (F : Fr n ss a) (hp : (It.mp g f).P w) : (execOp a.eval o).run P w = .ok (.value ((f k).getD z)) w := by
  obtain ⟨es, c, h1, h2⟩ := hp
  cases hf : f k with
  | none => simp [execOp, ho, F.ev hx, F.ev hi, Instr.lookup, run_underlying ht, run_getMap h1, run_keyInt hk, run_findNone hk h2 hf, run_zeroV hz]
  | some v =>
    obtain ⟨j, e, _, _, _, h6⟩ := run_findSome (P := P) (w := w) hk h2 hf
    simp [execOp, ho, F.ev hx, F.ev hi, Instr.lookup, run_underlying ht, run_getMap h1, run_keyInt hk, h6]
theorem y_lookup {t kt et : TypeId} {x ix : Operand} {g : Nat} {k : Int} {f : Int → Option Value} {z : Value} (ho : o.op = .lookup t x ix false) (ht : P.underlying t = some (.map kt et)) (hk : P.underlying kt = some (.int .i64)) (hz : (P.info? et).bind (·.zero) = some z)
    (hx : evO ss x = some (.map (some g))) (hi : evO ss ix = some (.int .i64 k)) (hm : It.mp g f ∈ l) : Yld P n S w0 ss l o ((f k).getD z) := fun a w F hs => lk_run ho ht hk hz hx hi F (hs.all _ hm)
theorem y_lookupO {t kt et : TypeId} {x ix : Operand} {g : Nat} {k : Int} {f : Int → Option Value} {z : Value} (ho : o.op = .lookup t x ix false) (ht : P.underlying t = some (.map kt et)) (hk : P.underlying kt = some (.int .i64)) (hz : (P.info? et).bind (·.zero) = some z)
    (hx : evO ss x = some (.map (some g))) (hi : evO ss ix = some (.int .i64 k)) (hm : (It.mp g f).P w0) : Yld P n [] w0 ss l o ((f k).getD z) := fun a w F hs => lk_run ho ht hk hz hx hi F (hs.keep hm)
variable {ops : Array Oper} {rest : List Oper} {Q : Exit → Act → World → Prop} {a : Act} {w : World}
theorem upd_mem {l l' : List It} {i i' : It} (h : Upd l i i' l') : i ∈ l := by
  obtain ⟨r, h1, _⟩ := h.perm
  exact h1.symm.subset (by simp)
theorem st_makeMap {t : TypeId} {d : Nat} (ho : o.op = .makeMap t none) (hw : wantB ops ss o = some true) (hd : o.dst = some d) (hn : Nat.ble (d + 1) n = true) (H : St n S w0 ss l a w)
    (K : ∀ g a' w', St n S w0 ((d, .map (some g)) :: ss) (It.mp g (fun _ => none) :: l) a' w' → wpList P ops Q rest a' w') : wpList P ops Q (o :: rest) a w := by
  refine does (v := .map (some w.heap.size)) (w' := w.alloc (.map #[] 0)) hw hd hn H ?_ (H.sep.add (Frm.alloc w _) (i' := It.mp w.heap.size (fun _ => none)) ?_ ?_) (fun a' H' => K w.heap.size a' _ H')
  · simp [execOp, ho, Instr.makeMap, newObj, Sem.run]
  · exact ⟨#[], 0, by show (w.heap.push _)[w.heap.size]? = _; simp, MapOk.empty⟩
  · intro b hb
    have : b = w.heap.size := by simpa [It.mp] using hb
    omega
theorem run_mapUpdate {t kt et : TypeId} {g : Nat} {k : Int} {v : Value} {f : Int → Option Value} (ht : P.underlying t = some (.map kt et)) (hk : P.underlying kt = some (.int .i64)) (hp : (It.mp g f).P w) :
    ∃ w', (Instr.mapUpdate t (.map (some g)) (.int .i64 k) v).run P w = .ok () w' ∧ Frm [g] w w' ∧ (It.mp g (mset f k v)).P w' := by
  obtain ⟨es, c, h1, h2⟩ := hp
  cases hf : f k with
  | none =>
    refine ⟨_, ?_, putObj_frm (.map (es.push ⟨.int .i64 k, v, c⟩) (c + 1)), _, _, putObj_at h1, ?_⟩
    · simp [Instr.mapUpdate, run_underlying ht, run_getMap h1, run_keyInt hk, run_findNone hk h2 hf, run_setMap h1]
    · simpa using h2.push (k := k) (u := v) hf
  | some u =>
    obtain ⟨j, e, h3, h4, h5, h6⟩ := run_findSome (P := P) (w := w) hk h2 hf
    refine ⟨_, ?_, putObj_frm (.map (es.modify j fun e => { e with key := .int .i64 k, val := v }) c), _, _, putObj_at h1, ?_⟩
    · simp [Instr.mapUpdate, run_underlying ht, run_getMap h1, run_keyInt hk, h6, toList_at h3, h4, run_keyStays, run_setMap h1]
    · rw [Array.toList_modify]
      exact h2.mod h3 h4 rfl rfl rfl
theorem st_mapUpdate {t kt et : TypeId} {x ix y : Operand} {g : Nat} {k : Int} {v : Value} {f : Int → Option Value} {l' : List It} (ho : o.op = .mapUpdate t x ix y) (ht : P.underlying t = some (.map kt et)) (hk : P.underlying kt = some (.int .i64))
    (hx : evO ss x = some (.map (some g))) (hi : evO ss ix = some (.int .i64 k)) (hy : evO ss y = some v) (hu : Upd l (It.mp g f) (It.mp g (mset f k v)) l') (hw : wantB ops ss o = some true) (hd : o.dst = none) (H : St n S w0 ss l a w)
    (K : ∀ w', St n S w0 ss l' a w' → wpList P ops Q rest a w') : wpList P ops Q (o :: rest) a w := by
  obtain ⟨w', h1, h2, h3⟩ := run_mapUpdate (k := k) (v := v) ht hk (H.sep.all _ (upd_mem hu))
  refine does_none (w' := w') hw hd H ?_ (H.sep.upd hu h2 h3 (by intro b' hb'; exact .inl hb')) (fun H' => K _ H')
  simp [execOp, ho, H.fr.ev hx, H.fr.ev hi, H.fr.ev hy, h1]
theorem run_delete {t kt et u : TypeId} {g : Nat} {k : Int} {f : Int → Option Value} {ty : TypeId} (ht : P.underlying t = some (.map kt et)) (hk : P.underlying kt = some (.int .i64)) (hp : (It.mp g f).P w) :
    ∃ w', (Builtin.delete_ #[t, u] ty #[.map (some g), .int .i64 k]).run P w = .ok (.tuple #[]) w' ∧ Frm [g] w w' ∧ (It.mp g (mdel f k)).P w' := by
  obtain ⟨es, c, h1, h2⟩ := hp
  cases hf : f k with
  | none =>
    refine ⟨_, ?_, putObj_frm (.map es c), _, _, putObj_at h1, ?_⟩
    · simp [Builtin.delete_, run_underlying ht, run_getMap h1, run_keyInt hk, run_findNone hk h2 hf, run_setMap h1]
    · rw [mdel_none hf]; exact h2
  | some u =>
    obtain ⟨j, e, h3, h4, h5, h6⟩ := run_findSome (P := P) (w := w) hk h2 hf
    refine ⟨_, ?_, putObj_frm (.map (es.eraseIdxIfInBounds j) c), _, _, putObj_at h1, ?_⟩
    · simp [Builtin.delete_, run_underlying ht, run_getMap h1, run_keyInt hk, h6, run_setMap h1]
    · have h7 : (es.eraseIdxIfInBounds j).toList = es.toList.eraseIdx j := by
        have : j < es.size := by
          have := (List.getElem?_eq_some_iff.1 h3).1
          simpa using this
        simp [Array.eraseIdxIfInBounds, this]
      rw [h7]
      exact h2.erase h3 h4
theorem does_value0 (hw : wantB ops ss o = some true) (hd : o.dst = none) (H : St n S w0 ss l a w) {v : Value} {w' : World} {l' : List It}
    (hr : (execOp a.eval o).run P w = .ok (.value v) w') (hs : Sep S w0 w' l')
    (K : St n S w0 ss l' a w' → wpList P ops Q rest a w') : wpList P ops Q (o :: rest) a w := by
  unfold wpList
  rw [if_pos (wanted_of H.fr hw)]
  refine .inl ?_
  unfold Oper.wp
  rw [hr]
  show wpList P ops Q rest (a.put o.dst v) w'
  rw [hd]
  exact K ⟨H.fr, hs⟩
theorem st_delete {t kt et u : TypeId} {x y : Operand} {g : Nat} {k : Int} {f : Int → Option Value} {l' : List It} (ho : o.op = .call { callee := .builtin .delete, args := #[x, y], argTypes := #[t, u] }) (ht : P.underlying t = some (.map kt et)) (hk : P.underlying kt = some (.int .i64))
    (hx : evO ss x = some (.map (some g))) (hy : evO ss y = some (.int .i64 k)) (hu : Upd l (It.mp g f) (It.mp g (mdel f k)) l') (hw : wantB ops ss o = some true) (hd : o.dst = none) (H : St n S w0 ss l a w)
    (K : ∀ w', St n S w0 ss l' a w' → wpList P ops Q rest a w') : wpList P ops Q (o :: rest) a w := by
  obtain ⟨w', h1, h2, h3⟩ := run_delete (P := P) (u := u) (k := k) (ty := o.type) ht hk (H.sep.all _ (upd_mem hu))
  refine does_value0 (v := .tuple #[]) (w' := w') hw hd H ?_ (H.sep.upd hu h2 h3 (by intro b' hb'; exact .inl hb')) (fun H' => K _ H')
  simp [execOp, ho, resolve, invoke, builtin, H.fr.ev hx, H.fr.ev hy, h1]
/-- A call that is given some items, which stand by themselves. -/
theorem st_callk2 {d : Nat} {f : FuncId} {args : List Value} {is lr : List It} {Φ : Value → List It → Prop} (he : Enters P n ss o f args) (hw : wantB ops ss o = some true) (hd : o.dst = some d) (hn : Nat.ble (d + 1) n = true) (H : St n S w0 ss l a w)
    (hp : Picks l is lr) (hk : Sep (fps is) w w is → Calls P f args.toArray w (Post (fps is) w Φ)) (K : ∀ v l' a' w', Φ v l' → St n S w0 ((d, v) :: ss) (l' ++ lr) a' w' → wpList P ops Q rest a' w') : wpList P ops Q (o :: rest) a w :=
  st_callk he hw hd hn H hp (hk (Sep.given H.sep hp)) K
/-- A function value that hands back one value and no memory. -/
theorem qcallv {Qa : Act → Prop} {d : Nat} {f : FuncId} {args : List Value} {v : Value} (he : Enters P n ss o f args) (hw : wantB ops ss o = some true) (hd : o.dst = some d) (hn : Nat.ble (d + 1) n = true) (H : Fr n ss a) (hk : ∀ w, Sep S w0 w l → Calls P f args.toArray w (Gives v [] w))
    (K : ∀ a', Fr n ((d, v) :: ss) a' → wpQuiet P ops (fun w' => Sep S w0 w' l) Qa rest a') : wpQuiet P ops (fun w' => Sep S w0 w' l) Qa (o :: rest) a := by
  unfold wpQuiet
  rw [if_pos (wanted_of H hw)]
  refine ⟨v, fun w hs => ?_, ?_⟩
  · unfold Oper.quietAt
    rw [he a w H]
    refine ⟨rfl, (hk w hs).mono ?_⟩
    rintro e w' ⟨u, l', rfl, ⟨rfl, rfl⟩, hs'⟩
    exact ⟨rfl, by simpa using hs.call0 hs'⟩
  · rw [hd]
    exact K _ (H.put (Nat.lt_of_succ_le (Nat.le_of_ble_eq_true hn)) v)
end
end Go.Sx

/- Auctions as cells. -/
namespace Go.Auction
open Go.Sx
open Go.Note (Z I64 Bid)
open Go.Inbox (flat_lenM flat_takeM flat_getM flat_pre memD)
def bdc (l : List Bid) : List Value := (l.map Bid.cells).flatten
theorem bid_len {b : Bid} (h : b.tag.length = 32) : (Bid.cells b).length = 36 := by simp [Bid.cells, h]
theorem bdc_len {l : List Bid} (h : ∀ x ∈ l, Bid.Wf x) : (bdc l).length = l.length * 36 := flat_lenM l fun x hx => bid_len (h x hx).tag
theorem bdc_take {l : List Bid} (h : ∀ x ∈ l, Bid.Wf x) (i : Nat) (hi : i < l.length) : ((bdc l).drop (i * 36)).take 36 = Bid.cells (l.getD i Bid.zero) := flat_takeM _ l i (fun x hx => bid_len (h x hx).tag) hi
theorem bdc_at {l : List Bid} (h : ∀ x ∈ l, Bid.Wf x) {k c : Nat} (hk : k < l.length) (hc : c < 36) : (bdc l)[k * 36 + c]? = (Bid.cells (l.getD k Bid.zero))[c]? := flat_getM (f := Bid.cells) Bid.zero (fun x hx => bid_len (h x hx).tag) hk hc
theorem bdc_append (l m : List Bid) : bdc (l ++ m) = bdc l ++ bdc m := by simp [bdc]
theorem bdc_one (b : Bid) : bdc [b] = Bid.cells b := by simp [bdc]
theorem bdc_cell (l : List Bid) : ∀ u ∈ bdc l, u.oneCell' = true := by
  intro u hu
  simp only [bdc, List.mem_flatten, List.mem_map] at hu
  obtain ⟨cs, ⟨b, _, rfl⟩, hu⟩ := hu
  simp only [Bid.cells, List.mem_cons, List.mem_map] at hu
  rcases hu with rfl | rfl | rfl | rfl | ⟨x, _, rfl⟩ <;> rfl
theorem bid_cell (b : Bid) : ∀ u ∈ Bid.cells b, u.oneCell' = true := by
  rw [← bdc_one]
  exact bdc_cell _
theorem atD {l : List Bid} (h : ∀ x ∈ l, Bid.Wf x) {k : Nat} (hk : k < l.length) : Bid.Wf (l.getD k Bid.zero) := h _ (by rw [Oct.getD_eq _ hk]; exact List.getElem_mem _)
def Win.cells (w : Win) : List Value := i64 w.bid.round :: i64 w.bid.who :: i64 w.bid.amount :: i64 w.bid.salt :: (w.bid.tag.map u8 ++ [i64 w.price])
theorem counts_mem (funds : List Int) (round floor : Int) : ∀ (l : List Bid) (x : Bid), x ∈ counts l funds round floor → x ∈ l := by
  intro l
  have key : ∀ (l out : List Bid) (x : Bid), x ∈ l.foldl (step funds round floor) out → x ∈ out ∨ x ∈ l := by
    intro l
    induction l with
    | nil => intro out x h; exact .inl h
    | cons b l ih =>
      intro out x h
      rcases ih _ x h with h | h
      · unfold step at h
        split at h
        · rcases List.mem_append.1 h with h | h
          · exact .inl h
          · rw [List.mem_singleton.1 h]; exact .inr List.mem_cons_self
        · exact .inl h
      · exact .inr (List.mem_cons_of_mem _ h)
  intro x h
  rcases key l [] x h with h | h
  · cases h
  · exact h
theorem counts_wf {l : List Bid} (h : ∀ x ∈ l, Bid.Wf x) (funds : List Int) (round floor : Int) : ∀ x ∈ counts l funds round floor, Bid.Wf x := fun x hx => h x (counts_mem _ _ _ _ x hx)
/-- Who has a bid that counts. -/
def byc (out : List Bid) : List Value := (List.range 64).map fun (k : Nat) => i64 (if (out.any fun x => decide (x.who = (k : Int))) then 1 else 0)
theorem byc_len (out : List Bid) : (byc out).length = 64 := by simp [byc]
theorem byc_at (out : List Bid) {n : Int} (h0 : 0 ≤ n) (h1 : n < 64) : (byc out)[n.toNat]? = some (i64 (if (out.any fun x => decide (x.who = n)) then 1 else 0)) := by
  have hn : n.toNat < 64 := by omega
  have e : ((n.toNat : Nat) : Int) = n := by omega
  simp [byc, List.getElem?_map, List.getElem?_range, hn, e]
theorem byc_set (out : List Bid) (b : Bid) (h0 : 0 ≤ b.who) (h1 : b.who < 64) : (byc out).set b.who.toNat (i64 1) = byc (out ++ [b]) := by
  apply List.ext_getElem?
  intro k
  by_cases hk : k < 64
  · by_cases e : b.who.toNat = k
    · subst e
      rw [List.getElem?_set_self (by rw [byc_len]; exact hk), byc_at _ h0 h1]
      simp
    · rw [List.getElem?_set_ne e]
      simp only [byc, List.getElem?_map, List.getElem?_range hk, Option.map_some, Option.some.injEq, List.any_append, List.any_cons, List.any_nil, Bool.or_false]
      have hne : ¬ b.who = (k : Int) := by omega
      simp [hne]
  · rw [List.getElem?_eq_none (by rw [List.length_set, byc_len]; omega), List.getElem?_eq_none (by rw [byc_len]; omega)]
theorem fresh_any {out : List Bid} {b : Bid} : fresh out b ↔ (out.any fun x => decide (x.who = b.who)) = false := by
  simp [fresh, List.any_eq_false]
/-- Where the best of the first j lies. -/
def ptr (l : List Bid) (A : Option Addr) (j : Nat) : Value := if j = 0 then .pointer none else .pointer (A.map (·.add (best l j * 36)))
theorem ptr_pos {l : List Bid} {A : Option Addr} {j : Nat} (h : ¬ j = 0) : ptr l A j = .pointer (A.map (·.add (best l j * 36))) := by unfold ptr; rw [if_neg h]
theorem ok_bounds {b : Bid} (h : b.ok = true) : (0 ≤ b.who ∧ b.who < 64) ∧ (0 ≤ b.amount ∧ b.amount ≤ 1099511627776) := by
  simp only [Bid.ok, Note.nums, Note.okNum, List.all_cons, List.all_nil, Bool.and_eq_true, decide_eq_true_eq] at h
  omega
theorem fresh_of {out : List Bid} {b : Bid} (h : ¬ (0 : Int) < (if (out.any fun x => decide (x.who = b.who)) = true then 1 else 0)) : fresh out b := by
  refine fresh_any.2 ?_
  cases e : (out.any fun x => decide (x.who = b.who)) with
  | false => rfl
  | true => rw [e] at h; simp at h
theorem stale_of {out : List Bid} {b : Bid} (h : (0 : Int) < (if (out.any fun x => decide (x.who = b.who)) = true then 1 else 0)) : ¬ fresh out b := fun hf => by
  rw [fresh_any.1 hf] at h
  simp at h
theorem has_in {fs : List Int} {b : Bid} (h : b.who < (fs.length : Int)) : has fs b = fs.getD b.who.toNat 0 := if_pos h
theorem has_out {fs : List Int} {b : Bid} (h : ¬ b.who < (fs.length : Int)) : has fs b = 0 := if_neg h
theorem rd_some {w : World} {A : Option Addr} {l : List Bid} {k : Nat} (hA : Rd w A (bdc l)) (hw : ∀ x ∈ l, Bid.Wf x) (hk : k < l.length) : ∃ ad, A = some ad := by
  rcases hA with h | ⟨ad, e, _⟩
  · have := bdc_len hw
    rw [h] at this
    simp at this
    omega
  · exact ⟨ad, e⟩
theorem ptr_new {l : List Bid} (A : Option Addr) {k : Nat} (h : k = 0 ∨ ahead (l.getD k Bid.zero) (l.getD (best l k) Bid.zero) = true) : Value.pointer (A.map (·.add ((k : Int).toNat * 36))) = ptr l A (k + 1) := by
  rw [ptr_pos (by omega), Int.toNat_natCast]
  rcases Nat.eq_zero_or_pos k with rfl | h0
  · rfl
  · rw [best_yes h0 (by rcases h with h | h; omega; exact h)]
theorem ptr_old {l : List Bid} (A : Option Addr) {k : Nat} (h0 : ¬ k = 0) (h : ¬ ahead (l.getD k Bid.zero) (l.getD (best l k) Bid.zero) = true) : Value.pointer (A.map (·.add (best l k * 36))) = ptr l A (k + 1) := by
  rw [ptr_pos (by omega), best_no (by omega) h]
theorem ahead_eq {a b : Bid} (h : a.amount = b.amount) : ahead a b = (Op.bytesLess (Sha.sum (Note.writeBid a).1) (Sha.sum (Note.writeBid b).1) || (decide (Sha.sum (Note.writeBid a).1 = Sha.sum (Note.writeBid b).1) && Op.bytesLess (Note.writeBid a).1 (Note.writeBid b).1)) := by
  unfold ahead
  rw [decide_eq_false (by omega), decide_eq_true h, name_less]
  rfl
theorem lf1 {a b : Bid} (h : a.amount = b.amount) (h1 : Op.bytesLess (Sha.sum (Note.writeBid a).1) (Sha.sum (Note.writeBid b).1) = true) : true = ahead a b := by rw [ahead_eq h, h1]; rfl
theorem lf2 {a b : Bid} (h : a.amount = b.amount) (h1 : Op.bytesLess (Sha.sum (Note.writeBid a).1) (Sha.sum (Note.writeBid b).1) = false) (h2 : Sha.sum (Note.writeBid a).1 = Sha.sum (Note.writeBid b).1) : Op.bytesLess (Note.writeBid a).1 (Note.writeBid b).1 = ahead a b := by rw [ahead_eq h, h1, decide_eq_true h2]; rfl
theorem lf3 {a b : Bid} (h : a.amount = b.amount) (h1 : Op.bytesLess (Sha.sum (Note.writeBid a).1) (Sha.sum (Note.writeBid b).1) = false) (h2 : ¬ Sha.sum (Note.writeBid a).1 = Sha.sum (Note.writeBid b).1) : false = ahead a b := by rw [ahead_eq h, h1, decide_eq_false h2]; rfl
theorem lf0 {a b : Bid} (h : ¬ a.amount = b.amount) : decide (b.amount < a.amount) = ahead a b := by
  unfold ahead
  rw [decide_eq_false h]
  simp
theorem price_same {l : List Bid} {k : Nat} {fl : Int} {i : Nat} (h : i = k) : price l k fl (i + 1) = price l k fl i := if_pos h
theorem price_more {l : List Bid} {k : Nat} {fl : Int} {i : Nat} (h : ¬ i = k) : price l k fl (i + 1) = max (price l k fl i) (l.getD i Bid.zero).amount := if_neg h
theorem fine_who {round floor : Int} {all : List Bid} (hf : Fine round floor all) {i j : Nat} (hi : i < all.length) (hj : j < all.length) (h : (all.getD i Bid.zero).who = (all.getD j Bid.zero).who) : i = j := by
  exact hf.one i j hi hj h
theorem price_eq {round floor : Int} {all : List Bid} (hf : Fine round floor all) {i k : Nat} (fl : Int) (hi : i < all.length) (hk : k < all.length) (h : ¬ (all.getD i Bid.zero).who ≠ (all.getD k Bid.zero).who) : price all k fl (i + 1) = price all k fl i := price_same (fine_who hf hi hk (by omega))
theorem price_ne {all : List Bid} {i k : Nat} (fl : Int) (h : (all.getD i Bid.zero).who ≠ (all.getD k Bid.zero).who) : price all k fl (i + 1) = max (price all k fl i) (all.getD i Bid.zero).amount := price_more (fun e => h (by rw [e]))
theorem counts_bad {l : List Bid} {fs : List Int} {r fl : Int} {k : Nat} (hk : k < l.length) (h : ¬ ((good r fl (l.getD k Bid.zero) ∧ fresh (counts (l.take k) fs r fl) (l.getD k Bid.zero)) ∧ (l.getD k Bid.zero).amount ≤ has fs (l.getD k Bid.zero))) : counts (l.take (k + 1)) fs r fl = counts (l.take k) fs r fl := by
  rw [counts_take hk, step_no (fun x => h ⟨⟨x.1, x.2.1⟩, x.2.2⟩)]
theorem counts_good {l : List Bid} {fs : List Int} {r fl : Int} {k : Nat} (hk : k < l.length) (h : good r fl (l.getD k Bid.zero) ∧ fresh (counts (l.take k) fs r fl) (l.getD k Bid.zero)) (h1 : (l.getD k Bid.zero).amount ≤ has fs (l.getD k Bid.zero)) : counts (l.take (k + 1)) fs r fl = counts (l.take k) fs r fl ++ [l.getD k Bid.zero] := by
  rw [counts_take hk, step_yes ⟨h.1, h.2, h1⟩]
def sees (out : List Bid) (b : Bid) (j : Nat) : Bool := (out.take j).all fun z => decide (z.who ≠ b.who)
theorem sees_all {out : List Bid} {b : Bid} {j : Nat} (h : out.length ≤ j) : sees out b j = decide (fresh out b) := by
  unfold sees fresh
  rw [List.take_of_length_le h, Bool.eq_iff_iff, List.all_eq_true]
  exact ⟨fun hh => decide_eq_true fun x hx => of_decide_eq_true (hh x hx), fun hh x hx => decide_eq_true ((of_decide_eq_true hh) x hx)⟩
theorem sees_yes {out : List Bid} {b : Bid} {j : Nat} (hj : j < out.length) (h : ¬ (out.getD j Bid.zero).who = b.who) : sees out b (j + 1) = sees out b j := by
  unfold sees
  rw [Oct.take_succ Bid.zero hj, List.all_append]
  have h' : decide ((out.getD j Bid.zero).who ≠ b.who) = true := decide_eq_true h
  simp only [List.all_cons, List.all_nil, h', Bool.and_true]
theorem sees_no {out : List Bid} {b : Bid} {j : Nat} (hj : j < out.length) (h : (out.getD j Bid.zero).who = b.who) : sees out b (j + 1) = false := by
  unfold sees
  rw [Oct.take_succ Bid.zero hj, List.all_append]
  have h' : decide ((out.getD j Bid.zero).who ≠ b.who) = false := decide_eq_false (fun x => x h)
  simp only [List.all_cons, h', Bool.false_and, Bool.and_false]
def A1 : Bid := (Note.signBid ⟨1, 1, 10, 0, Z⟩).1
def A2 : Bid := (Note.signBid ⟨1, 2, 7, 0, Z⟩).1
theorem A1_is : A1 = ⟨1, 1, 10, 0, A1.tag⟩ := by unfold A1; rw [Note.sign_ok (by decide)]
theorem A2_is : A2 = ⟨1, 2, 7, 0, A2.tag⟩ := by unfold A2; rw [Note.sign_ok (by decide)]
theorem A1_ok : Note.checkBid A1 = 0 := Note.check_sign (by decide)
theorem A2_ok : Note.checkBid A2 = 0 := Note.check_sign (by decide)
theorem A1_who : A1.round = 1 ∧ A1.who = 1 ∧ A1.amount = 10 ∧ A1.salt = 0 := by rw [A1_is]; exact ⟨rfl, rfl, rfl, rfl⟩
theorem A2_who : A2.round = 1 ∧ A2.who = 2 ∧ A2.amount = 7 ∧ A2.salt = 0 := by rw [A2_is]; exact ⟨rfl, rfl, rfl, rfl⟩
theorem A1_len : A1.tag.length = 32 := Note.sign_len _
theorem A2_len : A2.tag.length = 32 := Note.sign_len _
theorem A1_wf : Bid.Wf A1 := by
  obtain ⟨h1, h2, h3, h4⟩ := A1_who
  exact ⟨by rw [h1]; exact ⟨by decide, by decide⟩, by rw [h2]; exact ⟨by decide, by decide⟩, by rw [h3]; exact ⟨by decide, by decide⟩, by rw [h4]; exact ⟨by decide, by decide⟩, A1_len⟩
theorem A2_wf : Bid.Wf A2 := by
  obtain ⟨h1, h2, h3, h4⟩ := A2_who
  exact ⟨by rw [h1]; exact ⟨by decide, by decide⟩, by rw [h2]; exact ⟨by decide, by decide⟩, by rw [h3]; exact ⟨by decide, by decide⟩, by rw [h4]; exact ⟨by decide, by decide⟩, A2_len⟩
theorem A_wf : ∀ x ∈ [A2, A1], Bid.Wf x := by
  intro x hx
  simp only [List.mem_cons, List.not_mem_nil, or_false] at hx
  rcases hx with rfl | rfl
  · exact A2_wf
  · exact A1_wf
theorem aw_counts (n : Int) (h : 0 ≤ n) : counts [A2, A1] [0, 10, n] 1 3 = (if 7 ≤ n then [A2] else []) ++ [A1] := by
  obtain ⟨a1, a2, a3, a4⟩ := A1_who
  obtain ⟨b1, b2, b3, b4⟩ := A2_who
  have e : counts [A2, A1] [0, 10, n] 1 3 = step [0, 10, n] 1 3 (step [0, 10, n] 1 3 [] A2) A1 := by
    unfold counts
    simp only [List.foldl_cons, List.foldl_nil]
  have s2 : step [0, 10, n] 1 3 [] A2 = if 7 ≤ n then [A2] else [] := by
    have hh : has [0, 10, n] A2 = n := by
      unfold has
      rw [b2]
      rfl
    unfold step
    rw [hh, b3]
    by_cases h7 : 7 ≤ n
    · rw [if_pos h7, if_pos ⟨⟨A2_ok, b1, by omega⟩, by simp [fresh], h7⟩]; rfl
    · rw [if_neg h7, if_neg (fun x => h7 x.2.2)]
  have s1 : ∀ out, (∀ x ∈ out, x = A2) → step [0, 10, n] 1 3 out A1 = out ++ [A1] := by
    intro out ho
    refine step_yes ⟨⟨A1_ok, a1, by omega⟩, fun x hx => by rw [ho x hx]; omega, ?_⟩
    have hh : has [0, 10, n] A1 = 10 := by
      unfold has
      rw [a2]
      rfl
    rw [hh, a3]
    decide
  rw [e, s2, s1 _ (by split <;> simp)]
theorem aw_win1 : win [A2, A1] [0, 10, 10] 1 3 = (⟨A1, 7⟩, true) := by
  obtain ⟨a1, a2, a3, a4⟩ := A1_who
  obtain ⟨b1, b2, b3, b4⟩ := A2_who
  unfold win
  rw [aw_counts 10 (by decide), if_pos (by decide)]
  have hb : best [A2, A1] 2 = 1 := best_yes (l := [A2, A1]) (i := 1) (by decide) (by
    show ahead A1 A2 = true
    unfold ahead
    rw [a3, b3]
    decide)
  show winOf [A2, A1] 3 = _
  unfold winOf
  rw [if_neg (by simp)]
  show ((⟨[A2, A1].getD (best [A2, A1] 2) Bid.zero, price [A2, A1] (best [A2, A1] 2) 3 2⟩, true) : Win × Bool) = _
  rw [hb]
  have hp : price [A2, A1] 1 3 2 = 7 := by
    show (if 1 = 1 then (if 0 = 1 then (3 : Int) else max 3 A2.amount) else _) = _
    rw [if_pos rfl, if_neg (by decide), b3]
    decide
  rw [hp]
  rfl
theorem aw_win2 : win [A2, A1] [0, 10, 6] 1 3 = (⟨A1, 3⟩, true) := by
  unfold win
  rw [aw_counts 6 (by decide), if_neg (by decide)]
  rfl
theorem has_yes {fs : List Int} {b : Bid} {r fl : Int} (h : good r fl b ∧ b.who < (fs.length : Int)) : fs.getD b.who.toNat 0 = if good r fl b then has fs b else 0 := by rw [if_pos h.1, has_in h.2]
theorem has_no {fs : List Int} {b : Bid} {r fl : Int} (h : ¬ (good r fl b ∧ b.who < (fs.length : Int))) : (0 : Int) = if good r fl b then has fs b else 0 := by
  split
  · rename_i hg; rw [has_out (fun x => h ⟨hg, x⟩)]
  · rfl
theorem bdc_two (a b : Bid) : bdc [a, b] = Bid.cells a ++ Bid.cells b := by simp [bdc]
theorem win_tag {l : List Bid} (hw : ∀ x ∈ l, Bid.Wf x) (fs : List Int) (r fl : Int) : (win l fs r fl).1.bid.tag.length = 32 := by
  have hc := counts_wf hw fs r fl
  unfold win winOf
  split
  · exact Note.Z_len
  · rename_i h
    exact (atD hc (best_lt _ _ (Nat.pos_of_ne_zero h))).tag
section
variable {P : Program} {n : Nat} {S : List Nat} {w0 : World} {ss : List (Nat × Value)} {l : List It} {o : Oper}
theorem y_ptrNil {t t' e : TypeId} {x y : Operand} {L : List Bid} {A : Option Addr} {j : Nat} (ho : o.op = .binOp .eql t x y t') (ht : P.underlying t = some (.pointer e)) (hx : evO ss x = some (ptr L A j)) (hy : evO ss y = some (.pointer none)) (hA : ¬ j = 0 → ∃ ad, A = some ad) : Yld P n S w0 ss l o (.bool (decide (j = 0))) := by
  by_cases h : j = 0
  · rw [decide_eq_true h]
    subst h
    exact y_peql ho ht hx hy
  · rw [decide_eq_false h]
    obtain ⟨ad, rfl⟩ := hA h
    rw [ptr_pos h] at hx
    exact y_peql ho ht hx hy
theorem y_nilCk {x : Operand} {A : Option Addr} {k : Nat} (ho : o.op = .nilCheck x) (hx : evO ss x = some (.pointer (A.map (·.add k)))) (hA : ∃ ad, A = some ad) : Yld P n S w0 ss l o (.pointer (A.map (·.add k))) := by
  obtain ⟨ad, rfl⟩ := hA
  exact y_nilCheck ho hx
end
/-- What a law of auctions is given. -/
structure Case where
  l : List Bid
  A : Option Addr
  c : Nat
  fs : List Int
  B : Option Addr
  e : Nat
  r : Int
  fl : Int
def Case.cells (x : Case) : List Value := [Value.slice x.A x.l.length x.c, Value.slice x.B x.fs.length x.e, i64 x.r, i64 x.fl]
def Case.Wf (W : World) (x : Case) : Prop := x.l.length ≤ x.c ∧ x.fs.length ≤ 9223372036854775807 ∧ (∀ b ∈ x.l, Bid.Wf b) ∧ Rd W x.A (bdc x.l) ∧ Rd W x.B (x.fs.map i64)
end Go.Auction
namespace Go.Note
theorem bid_wf0 {b : Bid} (h : b.ok = true) (ht : b.tag.length = 32) : Bid.Wf b := by
  simp only [Bid.ok, nums, okNum, List.all_cons, List.all_nil, Bool.and_eq_true, decide_eq_true_eq] at h
  refine ⟨?_, ?_, ?_, ?_, ht⟩ <;> constructor <;> omega
end Go.Note

/- What a bank answers, in plain Lean. -/
namespace Go.Bank
def wrong (nil : Bool) (amt : Int) (l : List Int) : Int :=
  if nil then 1 else if ∃ x ∈ l, x < 0 ∨ 64 ≤ x then 20 else if amt < 0 ∨ 1099511627776 < amt then 2 else 0
theorem wrong_nil (amt : Int) (l : List Int) : wrong true amt l = 1 := by simp [wrong]
theorem wrong_who {amt : Int} {l : List Int} {k : Nat} (hk : k < l.length) (h : l.getD k 0 < 0 ∨ 64 ≤ l.getD k 0) : wrong false amt l = 20 := by
  have : ∃ x ∈ l, x < 0 ∨ 64 ≤ x := ⟨l.getD k 0, by rw [Oct.getD_eq 0 hk]; exact List.getElem_mem hk, h⟩
  simp only [wrong, this, if_true, Bool.false_eq_true, if_false]
def Fine (l : List Int) (k : Nat) : Prop := ∀ x ∈ l.take k, 0 ≤ x ∧ x < 64
theorem Fine.zero (l : List Int) : Fine l 0 := by simp [Fine]
theorem Fine.succ {l : List Int} {k : Nat} (h : Fine l k) (hk : k < l.length) (h0 : ¬ l.getD k 0 < 0) (h1 : ¬ 64 ≤ l.getD k 0) : Fine l (k + 1) := by
  intro x hx
  rw [Oct.take_succ 0 hk] at hx
  rcases List.mem_append.1 hx with hx | hx
  · exact h x hx
  · rw [List.mem_singleton.1 hx]; omega
theorem Fine.all {l : List Int} {k : Nat} (h : Fine l k) (hk : l.length ≤ k) : ¬ ∃ x ∈ l, x < 0 ∨ 64 ≤ x := by
  rintro ⟨x, hx, h'⟩
  have := h x (by rw [List.take_of_length_le hk]; exact hx)
  omega
theorem wrong_amt {amt : Int} {l : List Int} (h : ¬ ∃ x ∈ l, x < 0 ∨ 64 ≤ x) (h1 : amt < 0 ∨ 1099511627776 < amt) : wrong false amt l = 2 := by
  simp only [wrong, h, h1, if_true, Bool.false_eq_true, if_false]
theorem wrong_ok {amt : Int} {l : List Int} (h : ¬ ∃ x ∈ l, x < 0 ∨ 64 ≤ x) (h1 : ¬ (amt < 0 ∨ 1099511627776 < amt)) : wrong false amt l = 0 := by
  simp only [wrong, h, h1, Bool.false_eq_true, if_false]

/-- What everybody has. -/
structure Ok (L : List Int) : Prop where
  len : L.length = 64
  all : ∀ k, 0 ≤ L.getD k 0 ∧ L.getD k 0 ≤ 1099511627776
theorem Ok.zero : Ok (List.replicate 64 0) := ⟨by simp, fun k => by
  rw [List.getD_eq_getElem?_getD, List.getElem?_replicate]; split <;> simp⟩
theorem Ok.set {L : List Int} (h : Ok L) {k : Nat} {x : Int} (h0 : 0 ≤ x) (h1 : x ≤ 1099511627776) : Ok (L.set k x) := ⟨by simp [h.len], fun j => by
  have := h.all j
  rw [List.getD_eq_getElem?_getD] at this ⊢
  rw [List.getElem?_set]
  split
  · rename_i e; subst e
    split
    · exact ⟨h0, h1⟩
    · simp
  · exact this⟩
def at_ (L : List Int) (w : Int) : Int := L.getD w.toNat 0
def put (L : List Int) (who amt : Int) : Int × List Int :=
  if wrong false amt [who] ≠ 0 then (wrong false amt [who], L) else if 1099511627776 - at_ L who < amt then (3, L) else (0, L.set who.toNat (at_ L who + amt))
def take (L : List Int) (who amt : Int) : Int × List Int :=
  if wrong false amt [who] ≠ 0 then (wrong false amt [who], L) else if at_ L who < amt then (28, L) else (0, L.set who.toNat (at_ L who - amt))
def move (L : List Int) (f t amt : Int) : Int × List Int :=
  if wrong false amt [f, t] ≠ 0 then (wrong false amt [f, t], L) else if at_ L f < amt then (28, L) else if f ≠ t ∧ 1099511627776 - at_ L t < amt then (3, L)
  else (0, (L.set f.toNat (at_ L f - amt)).set t.toNat (at_ (L.set f.toNat (at_ L f - amt)) t + amt))
def of (L : List Int) (w : Int) : Int := if w < 0 ∨ 64 ≤ w then 0 else at_ L w
theorem wrong1 {amt who : Int} (h : wrong false amt [who] = 0) : 0 ≤ who ∧ who < 64 ∧ 0 ≤ amt ∧ amt ≤ 1099511627776 := by
  unfold wrong at h
  simp only [Bool.false_eq_true, if_false] at h
  split at h
  · cases h
  · rename_i h1
    split at h
    · cases h
    · rename_i h2
      have : ¬ (who < 0 ∨ 64 ≤ who) := fun h' => h1 ⟨who, by simp, h'⟩
      omega
theorem put_bad {L : List Int} {who amt : Int} (h : wrong false amt [who] ≠ 0) : put L who amt = (wrong false amt [who], L) := by unfold put; rw [if_pos h]
theorem put_big {L : List Int} {who amt : Int} (h : wrong false amt [who] = 0) (h1 : 1099511627776 - L.getD who.toNat 0 < amt) : put L who amt = (3, L) := by unfold put; rw [if_neg (by omega), if_pos (by unfold at_; exact h1)]
theorem put_ok {L : List Int} {who amt : Int} (h : wrong false amt [who] = 0) (h1 : ¬ 1099511627776 - L.getD who.toNat 0 < amt) : put L who amt = (0, L.set who.toNat (L.getD who.toNat 0 + amt)) := by unfold put; rw [if_neg (by omega), if_neg (by unfold at_; exact h1)]; rfl
theorem take_bad {L : List Int} {who amt : Int} (h : wrong false amt [who] ≠ 0) : take L who amt = (wrong false amt [who], L) := by unfold take; rw [if_pos h]
theorem take_few {L : List Int} {who amt : Int} (h : wrong false amt [who] = 0) (h1 : L.getD who.toNat 0 < amt) : take L who amt = (28, L) := by unfold take; rw [if_neg (by omega), if_pos (by unfold at_; exact h1)]
theorem take_ok {L : List Int} {who amt : Int} (h : wrong false amt [who] = 0) (h1 : ¬ L.getD who.toNat 0 < amt) : take L who amt = (0, L.set who.toNat (L.getD who.toNat 0 - amt)) := by unfold take; rw [if_neg (by omega), if_neg (by unfold at_; exact h1)]; rfl
theorem put_keep {L : List Int} (h : Ok L) (who amt : Int) : Ok (put L who amt).2 := by
  unfold put
  split
  · exact h
  · rename_i h0
    have := wrong1 (Decidable.not_not.1 h0)
    have h3 := h.all who.toNat
    unfold at_
    split
    · exact h
    · exact h.set (by omega) (by omega)
theorem take_keep {L : List Int} (h : Ok L) (who amt : Int) : Ok (take L who amt).2 := by
  unfold take
  split
  · exact h
  · rename_i h0
    have := wrong1 (Decidable.not_not.1 h0)
    have h3 := h.all who.toNat
    unfold at_
    split
    · exact h
    · exact h.set (by omega) (by omega)
structure Act where
  k : Int
  a : Int
  b : Int
  n : Int
def doo (L : List Int) (c : Act) : Int × List Int := if c.k = 0 ∨ c.k = 1 then put L c.a c.n else if c.k = 2 then take L c.a c.n else move L c.a c.b c.n
end Go.Bank
