/- Own words: maps with integer keys that a call owns. -/
import Derived.Test.YtaeahloenahelaaDoorSxK
set_option linter.unusedVariables false
set_option linter.unusedSimpArgs false
namespace Go.Sx
open Go.RowKit
/-- What a list of entries holds at a key. -/
def mf : List MapEntry → Int → Option Value
  | [], _ => none
  | e :: es, k => match e.key with
    | .int .i64 a => if a = k then some e.val else mf es k
    | _ => mf es k
structure MapOk (es : List MapEntry) (clock : Nat) (f : Int → Option Value) : Prop where
  keys : ∀ e ∈ es, ∃ a, e.key = .int .i64 a
  apart : es.Pairwise fun x y => x.key ≠ y.key
  at_ : ∀ k, mf es k = f k
  old : ∀ e ∈ es, e.born < clock
  born : es.Pairwise fun x y => x.born ≠ y.born
theorem mf_none {es : List MapEntry} {k : Int} (h : mf es k = none) : ∀ e ∈ es, e.key ≠ .int .i64 k := by
  induction es with
  | nil => intro e he; cases he
  | cons x es ih =>
    intro e he hk
    simp only [mf] at h
    rcases List.mem_cons.1 he with rfl | he
    · rw [hk] at h; simp at h
    · refine ih ?_ e he hk
      split at h
      · split at h
        · simp at h
        · exact h
      · exact h
theorem mf_append (es : List MapEntry) (x : MapEntry) (k a : Int) (hk : ∀ e ∈ es, ∃ a, e.key = .int .i64 a) (hx : x.key = .int .i64 a) (h : mf es a = none) : mf (es ++ [x]) k = if k = a then some x.val else mf es k := by
  induction es with
  | nil =>
    simp only [List.nil_append, mf, hx]
    by_cases hak : a = k
    · subst hak; simp
    · rw [if_neg hak, if_neg (fun e => hak e.symm)]
  | cons y es ih =>
    obtain ⟨b, hb⟩ := hk y List.mem_cons_self
    simp only [List.cons_append, mf, hb] at h ⊢
    split at h
    · simp at h
    · rename_i hba
      have ih' := ih (fun e he => hk e (List.mem_cons_of_mem _ he)) h
      by_cases hbk : b = k
      · subst hbk
        rw [if_pos rfl, if_pos rfl, if_neg hba]
      · rw [if_neg hbk, if_neg hbk]
        exact ih'
/-- A map with one key set. -/
def mset (f : Int → Option Value) (k : Int) (v : Value) : Int → Option Value := fun a => if a = k then some v else f a
theorem MapOk.push {es : List MapEntry} {clock : Nat} {f : Int → Option Value} (h : MapOk es clock f) {k : Int} {u : Value} (hn : f k = none) : MapOk (es ++ [⟨.int .i64 k, u, clock⟩]) (clock + 1) (mset f k u) where
  keys := fun x hx => by
    rcases List.mem_append.1 hx with hx | hx
    · exact h.keys x hx
    · rw [List.mem_singleton.1 hx]; exact ⟨k, rfl⟩
  apart := by
    refine List.pairwise_append.2 ⟨h.apart, List.pairwise_singleton _ _, fun x hx y hy => ?_⟩
    rw [List.mem_singleton.1 hy]
    exact mf_none (by rw [h.at_, hn]) x hx
  at_ := fun a => by rw [mf_append _ _ _ k h.keys rfl (by rw [h.at_, hn]), h.at_]; rfl
  old := fun x hx => by
    rcases List.mem_append.1 hx with hx | hx
    · have := h.old x hx; omega
    · rw [List.mem_singleton.1 hx]; exact Nat.lt_succ_self _
  born := by
    refine List.pairwise_append.2 ⟨h.born, List.pairwise_singleton _ _, fun x hx y hy => ?_⟩
    rw [List.mem_singleton.1 hy]
    have := h.old x hx
    show x.born ≠ clock
    omega
/-! ### Items -/
section
variable {P : Program} {n : Nat} {S : List Nat} {w0 : World} {ss : List (Nat × Value)} {l : List It} {o : Oper}
variable {ops : Array Oper} {rest : List Oper} {Q : Exit → Act → World → Prop} {a : Act} {w : World}
/-- A function value that hands back one value and no memory. -/
theorem qcallv {Qa : Act → Prop} {d : Nat} {f : FuncId} {args : List Value} {v : Value} (he : Enters P n ss o f args) (hw : wantB ops ss o = some true) (hd : o.dst = some d) (hn : Nat.ble (d + 1) n = true) (H : Fr n ss a) (hk : ∀ w, Sep S w0 w l → Calls P f args.toArray w (Gives v [] w))
    (K : ∀ a', Fr n ((d, v) :: ss) a' → wpQuiet P ops (fun w' => Sep S w0 w' l) Qa rest a') : wpQuiet P ops (fun w' => Sep S w0 w' l) Qa (o :: rest) a := by
  unfold wpQuiet
  rw [if_pos (wanted_of H hw)]
  refine ⟨v, fun w hs => ?_, ?_⟩
  · unfold Oper.quietAt
    rw [he a w H]
    refine ⟨rfl, (hk w hs).mono ?_⟩
    rintro e w' ⟨u, l', rfl, ⟨rfl, rfl⟩, hs'⟩
    exact ⟨rfl, by simpa using hs.call0 hs'⟩
  · rw [hd]
    exact K _ (H.put (Nat.lt_of_succ_le (Nat.le_of_ble_eq_true hn)) v)
end
end Go.Sx
