/- Own words: maps with integer keys that a call owns. -/
import Derived.Test.YtaeahloenahelaaDoorSxK
set_option linter.unusedVariables false
set_option linter.unusedSimpArgs false
namespace Go.Sx
open Go.RowKit
/-- What a list of entries holds at a key. -/
def mf : List MapEntry → Int → Option Value
  | [], _ => none
  | e :: es, k => match e.key with
    | .int .i64 a => if a = k then some e.val else mf es k
    | _ => mf es k
structure MapOk (es : List MapEntry) (clock : Nat) (f : Int → Option Value) : Prop where
  keys : ∀ e ∈ es, ∃ a, e.key = .int .i64 a
  apart : es.Pairwise fun x y => x.key ≠ y.key
  at_ : ∀ k, mf es k = f k
  old : ∀ e ∈ es, e.born < clock
  born : es.Pairwise fun x y => x.born ≠ y.born
theorem mf_none {es : List MapEntry} {k : Int} (h : mf es k = none) : ∀ e ∈ es, e.key ≠ .int .i64 k := by
  induction es with
  | nil => intro e he; cases he
  | cons x es ih =>
    intro e he hk
    simp only [mf] at h
    rcases List.mem_cons.1 he with rfl | he
    · rw [hk] at h; simp at h
    · refine ih ?_ e he hk
      split at h
      · split at h
        · simp at h
        · exact h
      · exact h
theorem findNow_none {es : List MapEntry} {k : Int} (hk : ∀ e ∈ es, ∃ a, e.key = .int .i64 a) (h : mf es k = none) : ∀ i, Instr.findNow (.int .i64) (.int .i64 k) es i = some none := by
  induction es with
  | nil => intro i; rfl
  | cons x es ih =>
    intro i
    obtain ⟨a, ha⟩ := hk x List.mem_cons_self
    have hn := mf_none h x List.mem_cons_self
    have hak : ¬ k = a := fun e => hn (by rw [ha, e])
    have h' : mf es k = none := by
      simp only [mf, ha] at h
      rw [if_neg (fun e => hak e.symm)] at h
      exact h
    have hb : (k == a) = false := beq_eq_false_iff_ne.2 hak
    simp only [Instr.findNow, ha, Instr.sameNow, if_true, hb]
    exact ih (fun e he => hk e (List.mem_cons_of_mem _ he)) h' (i + 1)
theorem findNow_some {es : List MapEntry} {k : Int} {v : Value} (hk : ∀ e ∈ es, ∃ a, e.key = .int .i64 a) (h : mf es k = some v) : ∃ j e, es[j]? = some e ∧ e.key = .int .i64 k ∧ e.val = v ∧ ∀ i, Instr.findNow (.int .i64) (.int .i64 k) es i = some (some (i + j, v)) := by
  induction es with
  | nil => simp [mf] at h
  | cons x es ih =>
    obtain ⟨a, ha⟩ := hk x List.mem_cons_self
    by_cases hak : a = k
    · subst hak
      simp only [mf, ha, if_true] at h
      refine ⟨0, x, rfl, ha, by simpa using h, fun i => ?_⟩
      simp only [Instr.findNow, ha, Instr.sameNow]
      simpa using h
    · have h' : mf es k = some v := by
        simp only [mf, ha] at h
        rw [if_neg hak] at h
        exact h
      obtain ⟨j, e, h1, h2, h3, h4⟩ := ih (fun e he => hk e (List.mem_cons_of_mem _ he)) h'
      refine ⟨j + 1, e, by simpa using h1, h2, h3, fun i => ?_⟩
      have hak' : ¬ k = a := fun e => hak e.symm
      have hb : (k == a) = false := beq_eq_false_iff_ne.2 hak'
      simp only [Instr.findNow, ha, Instr.sameNow, if_true, hb]
      rw [h4 (i + 1), show i + 1 + j = i + (j + 1) by omega]
theorem mf_append (es : List MapEntry) (x : MapEntry) (k a : Int) (hk : ∀ e ∈ es, ∃ a, e.key = .int .i64 a) (hx : x.key = .int .i64 a) (h : mf es a = none) : mf (es ++ [x]) k = if k = a then some x.val else mf es k := by
  induction es with
  | nil =>
    simp only [List.nil_append, mf, hx]
    by_cases hak : a = k
    · subst hak; simp
    · rw [if_neg hak, if_neg (fun e => hak e.symm)]
  | cons y es ih =>
    obtain ⟨b, hb⟩ := hk y List.mem_cons_self
    simp only [List.cons_append, mf, hb] at h ⊢
    split at h
    · simp at h
    · rename_i hba
      have ih' := ih (fun e he => hk e (List.mem_cons_of_mem _ he)) h
      by_cases hbk : b = k
      · subst hbk
        rw [if_pos rfl, if_pos rfl, if_neg hba]
      · rw [if_neg hbk, if_neg hbk]
        exact ih'
theorem mf_modify {es : List MapEntry} {j : Nat} {e : MapEntry} {k : Int} {g : MapEntry → MapEntry} {u : Value} (hk : ∀ e ∈ es, ∃ a, e.key = .int .i64 a) (hp : es.Pairwise fun x y => x.key ≠ y.key) (hj : es[j]? = some e) (he : e.key = .int .i64 k) (hg : (g e).key = .int .i64 k ∧ (g e).val = u) (a : Int) :
    mf (es.modify j g) a = if a = k then some u else mf es a := by
  induction es generalizing j with
  | nil => simp at hj
  | cons x es ih =>
    obtain ⟨b, hb⟩ := hk x List.mem_cons_self
    cases j with
    | zero =>
      obtain rfl : x = e := by simpa using hj
      have hbk : b = k := by rw [hb] at he; injection he
      subst hbk
      simp only [List.modify_zero_cons, mf, hg.1, hg.2, hb]
      by_cases hak : b = a
      · subst hak; simp
      · rw [if_neg hak, if_neg hak, if_neg (fun e => hak e.symm)]
    | succ j =>
      have hj' : es[j]? = some e := by simpa using hj
      have hm : e ∈ es := List.mem_of_getElem? hj'
      have hne := (List.pairwise_cons.1 hp).1 e hm
      have hbk : ¬ b = k := fun h => hne (by rw [hb, he, h])
      simp only [List.modify_succ_cons, mf, hb]
      by_cases hak : b = a
      · subst hak
        rw [if_pos rfl, if_pos rfl, if_neg hbk]
      · rw [if_neg hak, if_neg hak]
        exact ih (fun e he => hk e (List.mem_cons_of_mem _ he)) (List.pairwise_cons.1 hp).2 hj'
/-- A map with one key set. -/
def mset (f : Int → Option Value) (k : Int) (v : Value) : Int → Option Value := fun a => if a = k then some v else f a
theorem pairwise_modify {r : MapEntry → MapEntry → Prop} {g : MapEntry → MapEntry} : ∀ {es : List MapEntry} {j : Nat} {e : MapEntry}, es[j]? = some e → es.Pairwise r → (∀ x ∈ es, r x e → r x (g e)) → (∀ x ∈ es, r e x → r (g e) x) → (es.modify j g).Pairwise r
  | [], j, e, h, _, _, _ => by simp at h
  | x :: es, 0, e, h, hp, _, h2 => by
    obtain rfl : x = e := by simpa using h
    rw [List.modify_zero_cons]
    exact List.pairwise_cons.2 ⟨fun y hy => h2 y (List.mem_cons_of_mem _ hy) ((List.pairwise_cons.1 hp).1 y hy), (List.pairwise_cons.1 hp).2⟩
  | x :: es, j + 1, e, h, hp, h1, h2 => by
    have h' : es[j]? = some e := by simpa using h
    rw [List.modify_succ_cons]
    refine List.pairwise_cons.2 ⟨fun y hy => ?_, pairwise_modify h' (List.pairwise_cons.1 hp).2 (fun x hx => h1 x (List.mem_cons_of_mem _ hx)) (fun x hx => h2 x (List.mem_cons_of_mem _ hx))⟩
    rcases List.mem_iff_getElem?.1 hy with ⟨i, hi⟩
    rw [List.getElem?_modify] at hi
    by_cases hij : j = i
    · subst hij
      rw [h'] at hi
      simp only [if_true, Option.map_eq_map, Option.map_some, Option.some.injEq] at hi
      rw [← hi]
      exact h1 x List.mem_cons_self ((List.pairwise_cons.1 hp).1 e (List.mem_of_getElem? h'))
    · simp only [if_neg hij] at hi
      cases hi' : es[i]? with
      | none => rw [hi'] at hi; simp at hi
      | some z =>
        rw [hi'] at hi
        simp only [Option.map_eq_map, Option.map_some, Option.some.injEq] at hi
        rw [← hi]
        exact (List.pairwise_cons.1 hp).1 z (List.mem_of_getElem? hi')
theorem mem_modify {g : MapEntry → MapEntry} {es : List MapEntry} {j : Nat} {x : MapEntry} (h : x ∈ es.modify j g) : x ∈ es ∨ ∃ e, es[j]? = some e ∧ x = g e := by
  rcases List.mem_iff_getElem?.1 h with ⟨i, hi⟩
  rw [List.getElem?_modify] at hi
  cases hi' : es[i]? with
  | none => rw [hi'] at hi; simp at hi
  | some z =>
    rw [hi'] at hi
    by_cases hij : j = i
    · subst hij
      exact .inr ⟨z, hi', by simpa using hi.symm⟩
    · simp only [if_neg hij] at hi
      refine .inl (List.mem_of_getElem? (i := i) ?_)
      rw [hi']
      simpa using hi
theorem MapOk.mod {es : List MapEntry} {clock : Nat} {f : Int → Option Value} (h : MapOk es clock f) {j : Nat} {e : MapEntry} {k : Int} {u : Value} {g : MapEntry → MapEntry} (hj : es[j]? = some e) (he : e.key = .int .i64 k) (hg : (g e).key = .int .i64 k) (hu : (g e).val = u) (hb : (g e).born = e.born) : MapOk (es.modify j g) clock (mset f k u) where
  keys := fun x hx => by
    rcases mem_modify hx with hx | ⟨e', h1, rfl⟩
    · exact h.keys x hx
    · obtain rfl : e = e' := by rw [hj] at h1; exact Option.some.inj h1
      exact ⟨k, hg⟩
  apart := pairwise_modify hj h.apart (fun x _ hx => by rw [hg, ← he]; exact hx) (fun x _ hx => by rw [hg, ← he]; exact hx)
  at_ := fun a => by rw [mf_modify h.keys h.apart hj he ⟨hg, hu⟩, h.at_]; rfl
  old := fun x hx => by
    rcases mem_modify hx with hx | ⟨e', h1, rfl⟩
    · exact h.old x hx
    · obtain rfl : e = e' := by rw [hj] at h1; exact Option.some.inj h1
      rw [hb]
      exact h.old e (List.mem_of_getElem? hj)
  born := pairwise_modify hj h.born (fun x _ hx => by rw [hb]; exact hx) (fun x _ hx => by rw [hb]; exact hx)
theorem MapOk.push {es : List MapEntry} {clock : Nat} {f : Int → Option Value} (h : MapOk es clock f) {k : Int} {u : Value} (hn : f k = none) : MapOk (es ++ [⟨.int .i64 k, u, clock⟩]) (clock + 1) (mset f k u) where
  keys := fun x hx => by
    rcases List.mem_append.1 hx with hx | hx
    · exact h.keys x hx
    · rw [List.mem_singleton.1 hx]; exact ⟨k, rfl⟩
  apart := by
    refine List.pairwise_append.2 ⟨h.apart, List.pairwise_singleton _ _, fun x hx y hy => ?_⟩
    rw [List.mem_singleton.1 hy]
    exact mf_none (by rw [h.at_, hn]) x hx
  at_ := fun a => by rw [mf_append _ _ _ k h.keys rfl (by rw [h.at_, hn]), h.at_]; rfl
  old := fun x hx => by
    rcases List.mem_append.1 hx with hx | hx
    · have := h.old x hx; omega
    · rw [List.mem_singleton.1 hx]; exact Nat.lt_succ_self _
  born := by
    refine List.pairwise_append.2 ⟨h.born, List.pairwise_singleton _ _, fun x hx y hy => ?_⟩
    rw [List.mem_singleton.1 hy]
    have := h.old x hx
    show x.born ≠ clock
    omega
theorem MapOk.empty : MapOk [] 0 (fun _ => none) := ⟨by simp, List.Pairwise.nil, fun _ => rfl, by simp, List.Pairwise.nil⟩
/-! ### Items -/
/-- Block g is a map of f. -/
def It.mp (g : Nat) (f : Int → Option Value) : It where
  fp := [g]
  P := fun w => ∃ es clock, w.heap[g]? = some (.map es clock) ∧ MapOk es.toList clock f
  st := fun w w' h hp => by
    obtain ⟨es, c, h1, h2⟩ := hp
    exact ⟨es, c, (h g (by simp)).trans h1, h2⟩
  lt := fun w hp b hb => by
    obtain ⟨es, c, h1, h2⟩ := hp
    have : b = g := by simpa using hb
    subst this
    exact (Array.getElem?_eq_some_iff.1 h1).1
def putObj (w : World) (g : Nat) (o : Obj) : World := { w with heap := w.heap.setIfInBounds g o }
theorem putObj_frm {w : World} {g : Nat} (o : Obj) : Frm [g] w (putObj w g o) :=
  ⟨rfl, rfl, rfl, by simp [putObj], fun k hk hn => by
    have h : ¬ g = k := by
      intro e
      exact hn (by simp [e])
    simp only [putObj, Array.getElem?_setIfInBounds, h, if_false]⟩
theorem putObj_at {w : World} {g : Nat} {o o' : Obj} (h : w.heap[g]? = some o') : (putObj w g o).heap[g]? = some o := by
  have h1 := (Array.getElem?_eq_some_iff.1 h).1
  simp [putObj, Array.getElem?_setIfInBounds, h1]
theorem run_getMap {P : Program} {w : World} {g c : Nat} {es : Array MapEntry} (h : w.heap[g]? = some (.map es c)) : (getObj g).run P w = .ok (.map es c) w := by simp [getObj, Sem.run, h]
theorem run_setMap {P : Program} {w : World} {g c : Nat} {es : Array MapEntry} (h : w.heap[g]? = some (.map es c)) (o : Obj) : (setObj g o).run P w = .ok () (putObj w g o) := by simp [setObj, Sem.run, h, putObj]
theorem run_keyInt {P : Program} {w : World} {kt : TypeId} (hk : P.underlying kt = some (.int .i64)) (b : Bool) (k : Int) : (Instr.checkKey b 10000 kt (.int .i64 k)).run P w = .ok () w := by
  have h : ∀ m : Nat, (Instr.checkKey b (m + 1) kt (.int .i64 k)).run P w = .ok () w := fun m => by
    unfold Instr.checkKey
    simp [Sem.run_bind, run_underlying hk, Result.andThen]
  exact h 9999
theorem run_findNone {P : Program} {w : World} {kt : TypeId} (hk : P.underlying kt = some (.int .i64)) {es : List MapEntry} {c : Nat} {f : Int → Option Value} (h : MapOk es c f) {k : Int} (hf : f k = none) : (Instr.findKey kt (.int .i64 k) es).run P w = .ok none w := by
  simp [Instr.findKey, run_underlying hk, findNow_none h.keys (by rw [h.at_, hf] : mf es k = none)]
theorem run_findSome {P : Program} {w : World} {kt : TypeId} (hk : P.underlying kt = some (.int .i64)) {es : List MapEntry} {c : Nat} {f : Int → Option Value} (h : MapOk es c f) {k : Int} {v : Value} (hf : f k = some v) :
    ∃ j e, es[j]? = some e ∧ e.key = .int .i64 k ∧ e.val = v ∧ (Instr.findKey kt (.int .i64 k) es).run P w = .ok (some (j, v)) w := by
  obtain ⟨j, e, h1, h2, h3, h4⟩ := findNow_some h.keys (by rw [h.at_, hf] : mf es k = some v)
  refine ⟨j, e, h1, h2, h3, ?_⟩
  have h5 := h4 0
  rw [Nat.zero_add] at h5
  simp [Instr.findKey, run_underlying hk, h5]
theorem run_keyStays {P : Program} {w : World} (k : Int) : (Instr.keyThatStays (.int .i64 k) (.int .i64 k)).run P w = .ok (.int .i64 k) w := by
  have h : ∀ m : Nat, Instr.sameBits (m + 1) (.int .i64 k) (.int .i64 k) = true := fun m => by simp [Instr.sameBits]
  unfold Instr.keyThatStays
  rw [if_pos (h 9999)]
  rfl
theorem run_zeroV {P : Program} {w : World} {t : TypeId} {z : Value} (h : (P.info? t).bind (·.zero) = some z) : (zeroValue t).run P w = .ok z w := by
  cases hi : P.info? t with
  | none => simp [hi] at h
  | some i =>
    have hz : i.zero = some z := by simpa [hi] using h
    simp [zeroValue, typeInfo, hi, hz]
theorem toList_at {es : Array MapEntry} {j : Nat} {e : MapEntry} (h : es.toList[j]? = some e) : es[j]? = some e := by simpa using h
section
variable {P : Program} {n : Nat} {S : List Nat} {w0 : World} {ss : List (Nat × Value)} {l : List It} {o : Oper}
theorem lk_run {a : Act} {w : World} {t kt et : TypeId} {x ix : Operand} {g : Nat} {k : Int} {f : Int → Option Value} {z : Value} (ho : o.op = .lookup t x ix false) (ht : P.underlying t = some (.map kt et)) (hk : P.underlying kt = some (.int .i64)) (hz : (P.info? et).bind (·.zero) = some z)
    (hx : evO ss x = some (.map (some g))) (hi : evO ss ix = some (.int .i64 k)) (F : Fr n ss a) (hp : (It.mp g f).P w) : (execOp a.eval o).run P w = .ok (.value ((f k).getD z)) w := by
  obtain ⟨es, c, h1, h2⟩ := hp
  cases hf : f k with
  | none => simp [execOp, ho, F.ev hx, F.ev hi, Instr.lookup, run_underlying ht, run_getMap h1, run_keyInt hk, run_findNone hk h2 hf, run_zeroV hz]
  | some v =>
    obtain ⟨j, e, _, _, _, h6⟩ := run_findSome (P := P) (w := w) hk h2 hf
    simp [execOp, ho, F.ev hx, F.ev hi, Instr.lookup, run_underlying ht, run_getMap h1, run_keyInt hk, h6]
theorem y_lookup {t kt et : TypeId} {x ix : Operand} {g : Nat} {k : Int} {f : Int → Option Value} {z : Value} (ho : o.op = .lookup t x ix false) (ht : P.underlying t = some (.map kt et)) (hk : P.underlying kt = some (.int .i64)) (hz : (P.info? et).bind (·.zero) = some z)
    (hx : evO ss x = some (.map (some g))) (hi : evO ss ix = some (.int .i64 k)) (hm : It.mp g f ∈ l) : Yld P n S w0 ss l o ((f k).getD z) := fun a w F hs => lk_run ho ht hk hz hx hi F (hs.all _ hm)
theorem y_lookupO {t kt et : TypeId} {x ix : Operand} {g : Nat} {k : Int} {f : Int → Option Value} {z : Value} (ho : o.op = .lookup t x ix false) (ht : P.underlying t = some (.map kt et)) (hk : P.underlying kt = some (.int .i64)) (hz : (P.info? et).bind (·.zero) = some z)
    (hx : evO ss x = some (.map (some g))) (hi : evO ss ix = some (.int .i64 k)) (hm : (It.mp g f).P w0) : Yld P n [] w0 ss l o ((f k).getD z) := fun a w F hs => lk_run ho ht hk hz hx hi F (hs.keep hm)
theorem lk_run2 {a : Act} {w : World} {t kt et : TypeId} {x ix : Operand} {g : Nat} {k : Int} {f : Int → Option Value} {z : Value} (ho : o.op = .lookup t x ix true) (ht : P.underlying t = some (.map kt et)) (hk : P.underlying kt = some (.int .i64)) (hz : (P.info? et).bind (·.zero) = some z)
    (hx : evO ss x = some (.map (some g))) (hi : evO ss ix = some (.int .i64 k)) (F : Fr n ss a) (hp : (It.mp g f).P w) : (execOp a.eval o).run P w = .ok (.value (.tuple [(f k).getD z, .bool (f k).isSome].toArray)) w := by
  obtain ⟨es, c, h1, h2⟩ := hp
  cases hf : f k with
  | none => simp [execOp, ho, F.ev hx, F.ev hi, Instr.lookup, run_underlying ht, run_getMap h1, run_keyInt hk, run_findNone hk h2 hf, run_zeroV hz]
  | some v =>
    obtain ⟨j, e, _, _, _, h6⟩ := run_findSome (P := P) (w := w) hk h2 hf
    simp [execOp, ho, F.ev hx, F.ev hi, Instr.lookup, run_underlying ht, run_getMap h1, run_keyInt hk, h6]
theorem y_lookup2 {t kt et : TypeId} {x ix : Operand} {g : Nat} {k : Int} {f : Int → Option Value} {z : Value} (ho : o.op = .lookup t x ix true) (ht : P.underlying t = some (.map kt et)) (hk : P.underlying kt = some (.int .i64)) (hz : (P.info? et).bind (·.zero) = some z)
    (hx : evO ss x = some (.map (some g))) (hi : evO ss ix = some (.int .i64 k)) (hm : It.mp g f ∈ l) : Yld P n S w0 ss l o (.tuple [(f k).getD z, .bool (f k).isSome].toArray) := fun a w F hs => lk_run2 ho ht hk hz hx hi F (hs.all _ hm)
theorem y_lookup2O {t kt et : TypeId} {x ix : Operand} {g : Nat} {k : Int} {f : Int → Option Value} {z : Value} (ho : o.op = .lookup t x ix true) (ht : P.underlying t = some (.map kt et)) (hk : P.underlying kt = some (.int .i64)) (hz : (P.info? et).bind (·.zero) = some z)
    (hx : evO ss x = some (.map (some g))) (hi : evO ss ix = some (.int .i64 k)) (hm : (It.mp g f).P w0) : Yld P n [] w0 ss l o (.tuple [(f k).getD z, .bool (f k).isSome].toArray) := fun a w F hs => lk_run2 ho ht hk hz hx hi F (hs.keep hm)
variable {ops : Array Oper} {rest : List Oper} {Q : Exit → Act → World → Prop} {a : Act} {w : World}
theorem upd_mem {l l' : List It} {i i' : It} (h : Upd l i i' l') : i ∈ l := by
  obtain ⟨r, h1, _⟩ := h.perm
  exact h1.symm.subset (by simp)
theorem st_makeMap {t : TypeId} {d : Nat} (ho : o.op = .makeMap t none) (hw : wantB ops ss o = some true) (hd : o.dst = some d) (hn : Nat.ble (d + 1) n = true) (H : St n S w0 ss l a w)
    (K : ∀ g a' w', St n S w0 ((d, .map (some g)) :: ss) (It.mp g (fun _ => none) :: l) a' w' → wpList P ops Q rest a' w') : wpList P ops Q (o :: rest) a w := by
  refine does (v := .map (some w.heap.size)) (w' := w.alloc (.map #[] 0)) hw hd hn H ?_ (H.sep.add (Frm.alloc w _) (i' := It.mp w.heap.size (fun _ => none)) ?_ ?_) (fun a' H' => K w.heap.size a' _ H')
  · simp [execOp, ho, Instr.makeMap, newObj, Sem.run]
  · exact ⟨#[], 0, by show (w.heap.push _)[w.heap.size]? = _; simp, MapOk.empty⟩
  · intro b hb
    have : b = w.heap.size := by simpa [It.mp] using hb
    omega
theorem run_mapUpdate {t kt et : TypeId} {g : Nat} {k : Int} {v : Value} {f : Int → Option Value} (ht : P.underlying t = some (.map kt et)) (hk : P.underlying kt = some (.int .i64)) (hp : (It.mp g f).P w) :
    ∃ w', (Instr.mapUpdate t (.map (some g)) (.int .i64 k) v).run P w = .ok () w' ∧ Frm [g] w w' ∧ (It.mp g (mset f k v)).P w' := by
  obtain ⟨es, c, h1, h2⟩ := hp
  cases hf : f k with
  | none =>
    refine ⟨_, ?_, putObj_frm (.map (es.push ⟨.int .i64 k, v, c⟩) (c + 1)), _, _, putObj_at h1, ?_⟩
    · simp [Instr.mapUpdate, run_underlying ht, run_getMap h1, run_keyInt hk, run_findNone hk h2 hf, run_setMap h1]
    · simpa using h2.push (k := k) (u := v) hf
  | some u =>
    obtain ⟨j, e, h3, h4, h5, h6⟩ := run_findSome (P := P) (w := w) hk h2 hf
    refine ⟨_, ?_, putObj_frm (.map (es.modify j fun e => { e with key := .int .i64 k, val := v }) c), _, _, putObj_at h1, ?_⟩
    · simp [Instr.mapUpdate, run_underlying ht, run_getMap h1, run_keyInt hk, h6, toList_at h3, h4, run_keyStays, run_setMap h1]
    · rw [Array.toList_modify]
      exact h2.mod h3 h4 rfl rfl rfl
theorem st_mapUpdate {t kt et : TypeId} {x ix y : Operand} {g : Nat} {k : Int} {v : Value} {f : Int → Option Value} {l' : List It} (ho : o.op = .mapUpdate t x ix y) (ht : P.underlying t = some (.map kt et)) (hk : P.underlying kt = some (.int .i64))
    (hx : evO ss x = some (.map (some g))) (hi : evO ss ix = some (.int .i64 k)) (hy : evO ss y = some v) (hu : Upd l (It.mp g f) (It.mp g (mset f k v)) l') (hw : wantB ops ss o = some true) (hd : o.dst = none) (H : St n S w0 ss l a w)
    (K : ∀ w', St n S w0 ss l' a w' → wpList P ops Q rest a w') : wpList P ops Q (o :: rest) a w := by
  obtain ⟨w', h1, h2, h3⟩ := run_mapUpdate (k := k) (v := v) ht hk (H.sep.all _ (upd_mem hu))
  refine does_none (w' := w') hw hd H ?_ (H.sep.upd hu h2 h3 (by intro b' hb'; exact .inl hb')) (fun H' => K _ H')
  simp [execOp, ho, H.fr.ev hx, H.fr.ev hi, H.fr.ev hy, h1]
/-- A call that is given some items, which stand by themselves. -/
theorem st_callk2 {d : Nat} {f : FuncId} {args : List Value} {is lr : List It} {Φ : Value → List It → Prop} (he : Enters P n ss o f args) (hw : wantB ops ss o = some true) (hd : o.dst = some d) (hn : Nat.ble (d + 1) n = true) (H : St n S w0 ss l a w)
    (hp : Picks l is lr) (hk : Sep (fps is) w w is → Calls P f args.toArray w (Post (fps is) w Φ)) (K : ∀ v l' a' w', Φ v l' → St n S w0 ((d, v) :: ss) (l' ++ lr) a' w' → wpList P ops Q rest a' w') : wpList P ops Q (o :: rest) a w :=
  st_callk he hw hd hn H hp (hk (Sep.given H.sep hp)) K
/-- What a call is not given stays. -/
theorem Sep.kept {is lr : List It} {j : It} {w' : World} (H : Sep S w0 w l) (hp : Picks l is lr) (hj : j ∈ lr) (F : Frm (fps is) w w') : j.P w' := by
  have h := H.perm hp.perm.symm
  have hP := h.all j (List.mem_append_right _ hj)
  refine j.st w w' (fun b hb => F.block b (j.lt w hP b hb) fun hm => ?_) hP
  obtain ⟨i, hi, hbi⟩ := mem_fps hm
  exact (List.pairwise_append.1 h.dis).2.2 i hi j hj b hbi hb
/-- A function value that hands back one value and no memory. -/
theorem st_callvg {d : Nat} {f : FuncId} {args : List Value} {v : Value} (he : Enters P n ss o f args) (hw : wantB ops ss o = some true) (hd : o.dst = some d) (hn : Nat.ble (d + 1) n = true) (H : St n S w0 ss l a w) (hk : Calls P f args.toArray w (Gives v [] w))
    (K : ∀ a' w', St n S w0 ((d, v) :: ss) l a' w' → wpList P ops Q rest a' w') : wpList P ops Q (o :: rest) a w :=
  st_callk (is := []) he hw hd hn H (.nil _) hk (fun u l' a' w' h H' => by obtain ⟨rfl, rfl⟩ := h; exact K a' w' H')
theorem rd_blkP {b : Nat} {E : TypeId} {cs : List Value} (h : (It.blk b E cs).P w) : Rd w (some ⟨b, 0, none⟩) cs := by
  have h1 : w.heap[b]? = some (.cells cs.toArray E (0, 0)) := h
  have := Rd.blk h1 0 cs.length
  simpa using this
end
end Go.Sx
