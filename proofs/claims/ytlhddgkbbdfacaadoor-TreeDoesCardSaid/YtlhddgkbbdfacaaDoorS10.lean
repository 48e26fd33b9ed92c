/- Part of a proof about given Go functions: contracts of functions, or plain laws. -/
import Derived.Test.YtlhddgkbbdfacaaDoorS8
import Derived.RangeFuncRecord
import Derived.RangeFuncCalls
import Derived.Test.YtlhddgkbbdfacaaDoorS4
import Derived.Test.YtlhddgkbbdfacaaDoorS7
/- Own words for walks: a range over a function. -/
set_option linter.unusedVariables false
set_option linter.unusedSimpArgs false
namespace Go.Sx
open Go.RowKit

variable {P : Program} {n : Nat} {S : List Nat} {w0 : World} {ss : List (Nat × Value)} {l : List It}
variable {ops : Array Oper} {Q : Exit → Act → World → Prop} {rest : List Oper} {o : Oper} {a : Act} {w : World}

def noDeferB (o : Oper) : Bool := match o.op with
  | .defer _ => false
  | _ => true

/-- What the plain walk says of an operation holds in a round, too. -/
theorem upon_round {r m : Nat} {next next' : Act → World → Prop} (hn : ∀ a w, next a w → next' a w) : ∀ {x : Result Next}, o.upon P a next Q x → o.uponIn (Fence.wide.inRound r) m P a next' Q x := by
  intro x h
  match x with
  | .ok (.value v) w' => exact hn _ _ h
  | .ok .skip w' => exact hn _ _ h
  | .ok (.defer d) w' => exact hn _ _ h
  | .ok (.enter f args) w' =>
    refine ⟨fun hh => by simp [Fence.wide] at hh, CallsIn.inRound r (CallsIn.mono (callsIn_wide.2 h) ?_)⟩
    intro e w'' he
    cases e with
    | returned v => exact hn _ _ he
    | panicked c => exact he
    | outgrown => exact he
  | .ok (.row row args) w' =>
    refine ⟨fun hh => by simp [Fence.wide] at hh, ?_⟩
    intro c cs _
    obtain ⟨v, w'', h1, h2⟩ := h c cs
    exact ⟨v, w'', hn _ _ h1, stepsIn_wide.2 h2⟩
  | .halt (.panic v) w' => exact h
  | .ok (.round ..) w' => exact (h : False).elim

theorem list_round {r m : Nat} (hQ : ¬ LetsOut Q) : ∀ (rl : List Oper) (a : Act) (w : World), rl.all noDeferB = true → wpList P ops Q rl a w → wpListIn (Fence.wide.inRound r) m P ops Q rl a w
  | [], _, _, _, h => h
  | o :: rl, a, w, hc, h => by
    obtain ⟨h1, h2⟩ : noDeferB o = true ∧ rl.all noDeferB = true := by simpa [List.all_cons] using hc
    unfold wpList at h
    unfold wpListIn
    by_cases hw : Region.wanted o (yielded ops a.tmps) = true
    · rw [if_pos hw] at h ⊢
      rcases h with h | h
      · refine ⟨fun f _ => trivial, ?_⟩
        show o.uponIn _ m P a _ Q ((Oper.semAt (some r) a.eval o).run P w)
        rw [Oper.semAt_some r _ o (fun c e => by unfold noDeferB at h1; rw [e] at h1; simp at h1)]
        exact upon_round (fun a w hh => list_round hQ rl a w h2 hh) h
      · exact absurd h.2 hQ
    · rw [if_neg hw] at h ⊢
      exact ⟨fun f _ => trivial, list_round hQ rl _ _ h2 h⟩

/-- A region in a round, walked by the plain words. -/
theorem reg_round {r m id : Nat} {rl : List Oper} (hQ : ¬ LetsOut Q) (hc : rl.all noDeferB = true) (h : wpList P rl.toArray Q rl a w) : (Code.region id rl.toArray false).wpIn (Fence.wide.inRound r) m P Q a w :=
  wpIn_region_lit (list_round hQ rl a w hc h)

/-- A region walked at the wide fence. -/
theorem reg_wide {id : Nat} {rl : List Oper} (h : wpListIn Fence.wide 1 P rl.toArray Q rl a w) : (Code.region id rl.toArray false).wp P Q a w := wpIn_wide.1 (wpIn_region_lit h)

theorem plainW {d : Nat} {v : Value} (hy : Yld P n S w0 ss l o v) (hw : wantB ops ss o = some true) (hd : o.dst = some d) (hn : Nat.ble (d + 1) n = true) (H : St n S w0 ss l a w)
    (K : ∀ a', St n S w0 ((d, v) :: ss) l a' w → wpListIn Fence.wide 1 P ops Q rest a' w) : wpListIn Fence.wide 1 P ops Q (o :: rest) a w := by
  unfold wpListIn
  rw [if_pos (wanted_of H.fr hw)]
  refine ⟨fun f _ => trivial, ?_⟩
  show o.uponIn _ 1 P a _ Q ((Oper.semAt none a.eval o).run P w)
  rw [Oper.semAt_none, hy a w H.fr H.sep]
  show wpListIn Fence.wide 1 P ops Q rest (a.put o.dst v) w
  rw [hd]
  exact K _ ⟨H.fr.put (Nat.lt_of_succ_le (Nat.le_of_ble_eq_true hn)) v, H.sep⟩

/-- A call of yield: the round is asked for; what it leaves is told by two lists of items. -/
theorem yieldW {d r : Nat} {g : Operand} {xs : List Operand} {ts : Array TypeId} {args : List Value} {G : World → Prop} {B : World → Prop}
    (ho : o.op = .call { callee := .value g, args := xs.toArray, argTypes := ts }) (hg : evO ss g = some (.func (.yield r) #[] #[])) (ha : evs ss xs = some args)
    (hw : wantB ops ss o = some true) (hd : o.dst = some d) (hn : Nat.ble (d + 1) n = true) (H : St n S w0 ss l a w)
    (hy : YieldAt Fence.wide 0 P r args.toArray w fun e W' => (e = .returned (.bool true) ∧ G W') ∨ (e = .returned (.bool false) ∧ B W'))
    (KG : ∀ w' a', G w' → Fr n ((d, .bool true) :: ss) a' → wpListIn Fence.wide 1 P ops Q rest a' w')
    (KB : ∀ w' a', B w' → Fr n ((d, .bool false) :: ss) a' → wpListIn Fence.wide 1 P ops Q rest a' w') : wpListIn Fence.wide 1 P ops Q (o :: rest) a w := by
  unfold wpListIn
  rw [if_pos (wanted_of H.fr hw)]
  refine ⟨fun f _ => trivial, ?_⟩
  obtain ⟨fn, tmps, assign, body, hy1, hR⟩ := hy
  have hx : (execOp a.eval o).run P w = .ok (.round r fn tmps assign body) w := by
    have h1 := evs_map H.fr ha
    simp [execOp, ho, resolve, H.fr.ev hg, Deferred.ofValue, invoke, List.map_toArray, h1, hy1]
  show o.uponIn _ 1 P a _ Q ((Oper.semAt none a.eval o).run P w)
  rw [Oper.semAt_none, hx]
  refine ⟨fun hh => by simp [Fence.wide] at hh, hR.mono ?_⟩
  rintro e W' (⟨rfl, h⟩ | ⟨rfl, h⟩)
  · show wpListIn Fence.wide 1 P ops Q rest (a.put o.dst _) W'
    rw [hd]
    exact KG _ _ h (H.fr.put (Nat.lt_of_succ_le (Nat.le_of_ble_eq_true hn)) _)
  · show wpListIn Fence.wide 1 P ops Q rest (a.put o.dst _) W'
    rw [hd]
    exact KB _ _ h (H.fr.put (Nat.lt_of_succ_le (Nat.le_of_ble_eq_true hn)) _)

/-! ### A frame that bears a mark among its deferred calls -/
def under (ds : List Deferred) (Q : Exit → Act → World → Prop) : Exit → Act → World → Prop := fun e a w => ∃ d1, a.defers = d1 ++ ds ∧ Q e { tmps := a.tmps, defers := d1 } w
theorem lets_under {ds : List Deferred} (h : LetsOut Q) : LetsOut (under ds Q) := by
  obtain ⟨a, w, h⟩ := h
  exact ⟨{ tmps := a.tmps, defers := a.defers ++ ds }, w, _, rfl, h⟩
theorem put_under (t : Array Value) (d1 ds : List Deferred) (dst : Option Tmp) (v : Value) : ∃ t', Act.put { tmps := t, defers := d1 } dst v = { tmps := t', defers := d1 } ∧ Act.put { tmps := t, defers := d1 ++ ds } dst v = { tmps := t', defers := d1 ++ ds } := by
  cases dst with
  | none => exact ⟨t, rfl, rfl⟩
  | some d => exact ⟨_, rfl, rfl⟩
theorem list_under (ds : List Deferred) : ∀ (rl : List Oper) (t : Array Value) (d1 : List Deferred) (w : World), wpList P ops Q rl { tmps := t, defers := d1 } w → wpList P ops (under ds Q) rl { tmps := t, defers := d1 ++ ds } w
  | [], t, d1, w, h => ⟨d1, rfl, h⟩
  | o :: rl, t, d1, w, h => by
    unfold wpList at h ⊢
    by_cases hw : Region.wanted o (yielded ops t) = true
    · rw [if_pos hw] at h ⊢
      rcases h with h | h
      · refine .inl ?_
        unfold Oper.wp at h ⊢
        have e : Act.eval { tmps := t, defers := d1 ++ ds } = Act.eval { tmps := t, defers := d1 } := by funext x; cases x <;> rfl
        rw [e]
        generalize (execOp (Act.eval { tmps := t, defers := d1 }) o).run P w = x at h
        match x with
        | .ok (.value v) w' =>
          obtain ⟨t', e1, e2⟩ := put_under t d1 ds o.dst v
          have h' : wpList P ops Q rl (Act.put { tmps := t, defers := d1 } o.dst v) w' := h
          show wpList P ops (under ds Q) rl (Act.put { tmps := t, defers := d1 ++ ds } o.dst v) w'
          rw [e1] at h'; rw [e2]; exact list_under ds rl _ _ _ h'
        | .ok .skip w' =>
          obtain ⟨t', e1, e2⟩ := put_under t d1 ds o.dst undef
          have h' : wpList P ops Q rl (Act.put { tmps := t, defers := d1 } o.dst undef) w' := h
          show wpList P ops (under ds Q) rl (Act.put { tmps := t, defers := d1 ++ ds } o.dst undef) w'
          rw [e1] at h'; rw [e2]; exact list_under ds rl _ _ _ h'
        | .ok (.defer d) w' =>
          obtain ⟨t', e1, e2⟩ := put_under t (d :: d1) ds o.dst undef
          have h' : wpList P ops Q rl (Act.put { tmps := t, defers := d :: d1 } o.dst undef) w' := h
          show wpList P ops (under ds Q) rl (Act.put { tmps := t, defers := (d :: d1) ++ ds } o.dst undef) w'
          rw [e1] at h'; rw [e2]; exact list_under ds rl _ _ _ h'
        | .ok (.enter f args) w' =>
          refine Calls.mono (h : Calls P f args w' _) ?_
          intro e w'' he
          cases e with
          | returned v =>
            obtain ⟨t', e1, e2⟩ := put_under t d1 ds o.dst v
            have h' : wpList P ops Q rl (Act.put { tmps := t, defers := d1 } o.dst v) w'' := he
            show wpList P ops (under ds Q) rl (Act.put { tmps := t, defers := d1 ++ ds } o.dst v) w''
            rw [e1] at h'; rw [e2]; exact list_under ds rl _ _ _ h'
          | panicked c => exact ⟨d1, rfl, he⟩
          | outgrown => exact lets_under he
        | .ok (.row row args) w' =>
          refine Rows.mono (h : Rows P row args w' _) ?_
          intro v w'' he
          obtain ⟨t', e1, e2⟩ := put_under t d1 ds o.dst v
          show wpList P ops (under ds Q) rl (Act.put { tmps := t, defers := d1 ++ ds } o.dst v) w''
          rw [e1] at he; rw [e2]; exact list_under ds rl _ _ _ he
        | .halt (.panic v) w' => exact ⟨d1, rfl, h⟩
      · exact .inr ⟨h.1, lets_under h.2⟩
    · rw [if_neg hw] at h ⊢
      obtain ⟨t', e1, e2⟩ := put_under t d1 ds o.dst undef
      rw [e1] at h; rw [e2]; exact list_under ds rl _ _ _ h

/-! ### The loop's record and the block for deferred calls are items as others -/
theorem Frm.putObj (w : World) (r : Nat) (o : Obj) : Frm [r] w (w.putObj r o) :=
  ⟨rfl, rfl, rfl, by simp, fun k _ hn => World.putObj_heap_other (fun e => hn (by simp [e]))⟩
theorem Sep.putObj {S : List Nat} {w0 w : World} {l l' : List It} {r : Nat} {o o' : Obj} (h : Sep S w0 w l) (u : Upd l (It.obj r o) (It.obj r o') l') (hm : It.obj r o ∈ l) : Sep S w0 (w.putObj r o') l' :=
  h.upd u (Frm.putObj w r o') (World.putObj_heap_same ((It.obj r o).lt w (h.all _ hm) r (by simp [It.obj]))) (fun b hb => .inl hb)

/-- What is known when a round's body is left. -/
def RQ (S : List Nat) (w0 : World) (x : It) (G B : List It → Prop) : Exit → Act → World → Prop
  | .normal, _, w => ∃ lb, Sep S w0 w (x :: lb) ∧ G lb
  | .ret, _, w => ∃ lb, Sep S w0 w (x :: lb) ∧ B lb
  | _, _, _ => False

theorem yield_of {r : Nat} {rc : LoopState → Option Code → Loop} {ps : Array Tmp} {assign body : Code} {tm : Array Value} {fn : FuncId} {D : Nat} {args : List Value} {G B : List It → Prop}
    (hrc : ∀ st pe, rc st pe = { state := st, pending := pe, fn, tmps := tm, params := ps, assign, body, defers := D }) (hps : args.length = ps.size) (hs : Sep S w0 w (It.obj r (.loop (rc .ready none)) :: l))
    (h : assign.wpIn (Fence.wide.inRound r) 0 P (Exit.then (fun a1 w2 => ∃ la, Sep S w0 w2 (It.obj r (.loop (rc .ready none)) :: la) ∧ ∀ w3, Sep S w0 w3 (It.obj r (.loop (rc .busy none)) :: la) → body.wpIn (Fence.wide.inRound r) 0 P (RQ S w0 (It.obj r (.loop (rc .busy none))) G B) a1 w3) (fun _ _ _ => False))
      { tmps := (ps.zip args.toArray).foldl (fun t (p, v) => t.setIfInBounds p v) tm, defers := [] } w) :
    YieldAt Fence.wide 0 P r args.toArray w fun e W' => (e = .returned (.bool true) ∧ ∃ lb, G lb ∧ Sep S w0 W' (It.obj r (.loop (rc .ready none)) :: lb)) ∨ (e = .returned (.bool false) ∧ ∃ lb, B lb ∧ Sep S w0 W' (It.obj r (.loop (rc .done (some .ret))) :: lb)) := by
  have hl : w.heap[r]? = some (.loop (rc .ready none)) := hs.all _ List.mem_cons_self
  have hy := run_yield (P := P) (args := args.toArray) hl (by rw [hrc]; simpa using hps)
  rw [hrc] at hy
  refine ⟨_, _, _, _, hy, roundIn_of_wpIn trivial (wpIn_mono h ?_)⟩
  intro e a1 w2 hq
  cases e with
  | normal =>
    obtain ⟨la, hs2, hb⟩ := hq
    have hl2 : w2.heap[r]? = some (.loop (rc .ready none)) := hs2.all _ List.mem_cons_self
    have hbr := run_beginRound (P := P) hl2 (by rw [hrc])
    have e2 : ({ rc .ready none with state := .busy } : Loop) = rc .busy none := by simp only [hrc]
    rw [e2] at hbr
    refine ⟨_, hbr, wpIn_mono (hb _ (hs2.putObj (Upd.head _ _ _) List.mem_cons_self)) ?_⟩
    intro e3 a3 w4 hq3
    cases e3 with
    | normal =>
      obtain ⟨lb, hs4, hG⟩ := hq3
      have hl4 : w4.heap[r]? = some (.loop (rc .busy none)) := hs4.all _ List.mem_cons_self
      have he := run_endRound (P := P) none hl4
      have e5 : ({ rc .busy none with state := (if (none : Option Code).isNone then LoopState.ready else .done), pending := none } : Loop) = rc .ready none := by simp [hrc]
      rw [e5] at he
      exact ⟨_, _, he, .inl ⟨rfl, lb, hG, hs4.putObj (Upd.head _ _ _) List.mem_cons_self⟩⟩
    | ret =>
      obtain ⟨lb, hs4, hB⟩ := hq3
      have hl4 : w4.heap[r]? = some (.loop (rc .busy none)) := hs4.all _ List.mem_cons_self
      have he := run_endRound (P := P) (some .ret) hl4
      have e5 : ({ rc .busy none with state := (if (some Code.ret).isNone then LoopState.ready else .done), pending := some .ret } : Loop) = rc .done (some .ret) := by simp [hrc]
      rw [e5] at he
      exact ⟨_, _, he, .inr ⟨rfl, lb, hB, hs4.putObj (Upd.head _ _ _) List.mem_cons_self⟩⟩
    | exit id => exact hq3.elim
    | goto t => exact hq3.elim
    | panic c => exact hq3.elim
    | outgrown => exact hq3.elim
  | ret => exact hq.elim
  | exit id => exact hq.elim
  | goto t => exact hq.elim
  | panic c => exact hq.elim
  | outgrown => exact hq.elim

/-- The statement, over a function value that is bound to what it is a method of. -/
theorem rangeW {g : Operand} {ps : Array Tmp} {assign body : Code} {gf : FuncId} {recv : Value} {lN : List It} {GN : Prop} {GM : List It → Prop}
    (hg : evO ss g = some (.func (.func gf) #[recv] #[])) (hc : callB P gf = true) (H : St n S w0 ss l a w)
    (h : ∀ (fn : FuncId) (r D : Nat) (rc : LoopState → Option Code → Loop) (w1 : World), (∀ st pe, rc st pe = { state := st, pending := pe, fn, tmps := a.tmps, params := ps, assign, body, defers := D }) →
      Sep S w0 w1 (It.obj r (.loop (rc .ready none)) :: It.obj D (.deferred (some [])) :: l) →
      Calls P gf [recv, .func (.yield r) #[] #[]].toArray w1 fun e w2 => ∃ v, e = .returned v ∧
        ((GN ∧ Sep S w0 w2 (It.obj r (.loop (rc .ready none)) :: It.obj D (.deferred (some [])) :: lN)) ∨ (∃ lM, GM lM ∧ Sep S w0 w2 (It.obj r (.loop (rc .done (some .ret))) :: It.obj D (.deferred (some [])) :: lM))))
    (KN : ∀ D w3, GN → Sep S w0 w3 (It.obj D (.deferred (some [])) :: lN) → Q .normal { a with defers := [{ target := .collected D, args := #[] }] } w3)
    (KM : ∀ D w3 lM, GM lM → Sep S w0 w3 (It.obj D (.deferred (some [])) :: lM) → Q .ret { a with defers := [{ target := .collected D, args := #[] }] } w3) :
    (Code.rangeFunc g ps assign body).wp P Q a w := by
  refine wpIn_wide (n := 1).1 (wpIn_rangeFunc ?_)
  intro fn _
  have hs2 := (H.sep.alloc (.deferred (some []))).alloc (.loop { state := .ready, pending := none, fn, tmps := a.tmps, params := ps, assign, body, defers := w.heap.size })
  rw [World.size_alloc] at hs2
  obtain ⟨rc, hrc⟩ : ∃ rc : LoopState → Option Code → Loop, ∀ st pe, rc st pe = { state := st, pending := pe, fn, tmps := a.tmps, params := ps, assign, body, defers := w.heap.size } := ⟨_, fun _ _ => rfl⟩
  rw [← hrc] at hs2
  have e1 := H.fr.ev hg
  have hcall := h fn _ _ rc _ hrc hs2
  refine ⟨_, _, ((w.alloc (.deferred (some []))).alloc (.loop (rc .ready none))), { target := .fn (.func gf) #[], args := #[recv, .func (.yield (w.heap.size + 1)) #[] #[]] }, ((w.alloc (.deferred (some []))).alloc (.loop (rc .ready none))), gf, #[recv, .func (.yield (w.heap.size + 1)) #[] #[]], ((w.alloc (.deferred (some []))).alloc (.loop (rc .ready none))), by rw [hrc]; exact run_enterLoop_outer _ _ _ _ _, ?_, fun _ _ => trivial, ?_, fun hh => absurd (show (none : Option Nat).isSome = true from hh) (by simp), callsIn_wide.2 (hcall.mono ?_)⟩
  · simp only [resolve]
    rw [e1]
    have e2 : (#[Operand.const (Value.func (Fn.yield (w.heap.size + 1)) #[] #[])] : Array Operand).map a.eval = #[Value.func (Fn.yield (w.heap.size + 1)) #[] #[]] := by simp [Act.eval]
    rw [e2]
    simp [Deferred.ofValue]
  · simp [invoke, run_callFunc hc]
  · rintro e w2 ⟨v, rfl, (⟨hG, hs⟩ | ⟨lM, hG, hs⟩)⟩
    · have hl : w2.heap[w.heap.size + 1]? = some (.loop (rc .ready none)) := hs.all _ List.mem_cons_self
      have he := run_endLoop (P := P) hl (by rw [hrc]; simp)
      have e5 : ({ rc .ready none with state := .exhausted } : Loop) = rc .exhausted none := by simp only [hrc]
      have hp : (rc .ready none).pending = none := by rw [hrc]
      rw [e5, hp] at he
      have hs3 := (hs.putObj (o' := .loop (rc .exhausted none)) (Upd.head _ _ _) List.mem_cons_self).sub (List.sublist_cons_self _ _)
      refine ⟨_, _, he, ?_⟩
      have := KN _ _ hG hs3
      show Q .normal { a with defers := _ ++ a.defers } _
      rw [H.fr.df]; exact this
    · have hl : w2.heap[w.heap.size + 1]? = some (.loop (rc .done (some .ret))) := hs.all _ List.mem_cons_self
      have he := run_endLoop (P := P) hl (by rw [hrc]; simp)
      have e5 : ({ rc .done (some .ret) with state := .exhausted } : Loop) = rc .exhausted (some .ret) := by simp only [hrc]
      have hp : (rc .done (some .ret)).pending = some .ret := by rw [hrc]
      rw [e5, hp] at he
      have hs3 := (hs.putObj (o' := .loop (rc .exhausted (some .ret))) (Upd.head _ _ _) List.mem_cons_self).sub (List.sublist_cons_self _ _)
      refine ⟨_, _, he, wpIn_ret ?_⟩
      have := KM _ _ _ hG hs3
      show Q .ret { a with defers := _ ++ a.defers } _
      rw [H.fr.df]; exact this

theorem reg_under {ds : List Deferred} {id : Nat} {rl : List Oper} {t : Array Value} (h : wpList P rl.toArray (fun e b w' => b.defers = [] ∧ Q e { tmps := b.tmps, defers := ds } w') rl { tmps := t, defers := [] } w) :
    (Code.region id rl.toArray false).wp P Q { tmps := t, defers := ds } w :=
  wp_mono (wp_region_lit (by simpa using list_under ds rl t [] w h)) (by
    rintro e ⟨t', d'⟩ w' ⟨d1, h1, h2, h3⟩
    dsimp only at h1 h2 h3
    subst h2
    subst h1
    exact h3)

theorem enterM {f : FuncId} {fn : Func} {c : Code} {args : List Value} {R : Ending → World → Prop} (hf : P.funcs[f]? = some fn) (hb : fn.body = some c) (hn : Nat.ble args.length fn.ntmps = true) (hS : Sep S w0 w l)
    (h : ∀ a, St fn.ntmps S w0 (slots 0 args) l a w → c.wp P (bodyPostM Fence.wide 1 P fn R) a w) : Calls P f args.toArray w R := by
  refine callsIn_wide (n := 1).1 (callsIn_of_wp_marks hf hb trivial (wpIn_wide.2 (h _ ⟨⟨?_, rfl, fun t v ht => ?_⟩, hS⟩)) rfl)
  · have := Nat.le_of_ble_eq_true hn
    simp
    omega
  · have h1 := (find_slots args 0 t v ht).2
    have h2 : t < args.length := (List.getElem?_eq_some_iff.1 (by simpa using h1)).1
    show (args.toArray ++ _)[t]? = some v
    rw [Array.getElem?_append_left (by simpa using h2)]
    simpa using h1

theorem retM {fn : Func} {R : Ending → World → Prop} {t : Array Value} {D m : Nat} (hs : Sep S w0 w (It.obj D (.deferred (some [])) :: l))
    (h : ∀ w', Sep S w0 w' l → ∃ v, (results fn t).run P w' = .ok v w' ∧ R (.returned v) w') : bodyPostM Fence.wide m P fn R .ret { tmps := t, defers := [{ target := .collected D, args := #[] }] } w := by
  have hK : w.heap[D]? = some (.deferred (some [])) := hs.all _ List.mem_cons_self
  refine ⟨by simp, .inl ⟨_, _, rfl, run_takeDeferred hK, ?_⟩⟩
  exact h _ ((hs.putObj (o' := .deferred none) (Upd.head _ _ _) List.mem_cons_self).sub (List.sublist_cons_self _ _))

theorem fr_round {p1 p2 : Nat} {v1 v2 : Value} (F : Fr n ss a) (h1 : p1 < n) (h2 : p2 < n) :
    Fr n ((p2, v2) :: (p1, v1) :: ss) { tmps := ((#[p1, p2] : Array Tmp).zip [v1, v2].toArray).foldl (fun t (p, v) => t.setIfInBounds p v) a.tmps, defers := [] } := by
  have h := (F.put h1 v1).put h2 v2
  have e : (a.put (some p1) v1).put (some p2) v2 = { tmps := (a.tmps.setIfInBounds p1 v1).setIfInBounds p2 v2, defers := a.defers } := rfl
  rw [e, F.df] at h
  simpa using h

theorem run_cc1 {fn : Func} {t ty b t2 ty2 b2 : Nat} {E E2 : TypeId} {v v2 : Value} (hr : fn.results = #[.cell t ty, .cell t2 ty2]) (F : ∀ q x, find ss q = some x → a.tmps[q]? = some x) (hs : Sep S w0 w l) (hv : find ss t = some (.pointer (some ⟨b, 0, none⟩))) (ht : aggB P ty = some false) (hm : It.blk b E [v] ∈ l)
    (hv2 : find ss t2 = some (.pointer (some ⟨b2, 0, none⟩))) (ht2 : aggB P ty2 = some false) (hm2 : It.blk b2 E2 [v2] ∈ l) :
    (results fn a.tmps).run P w = .ok (.tuple #[v, v2]) w := by
  have h1 : a.tmps[t]?.getD undef = .pointer (some ⟨b, 0, none⟩) := by rw [F _ _ hv]; rfl
  have h2 : a.tmps[t2]?.getD undef = .pointer (some ⟨b2, 0, none⟩) := by rw [F _ _ hv2]; rfl
  have c1 : w.cell? ⟨b, 0, none⟩ = some v := by rw [cell_blk (blk_at hm hs)]; rfl
  have c2 : w.cell? ⟨b2, 0, none⟩ = some v2 := by rw [cell_blk (blk_at hm2 hs)]; rfl
  simp [results, hr, h1, h2, loadVar, run_isAgg' ht, run_isAgg' ht2, asAddr, load, Sem.run, c1, c2, Result.andThen]
theorem yield_mono {r m : Nat} {F : Fence} {args : Array Value} {R R' : Ending → World → Prop} (h : YieldAt F m P r args w R) (hr : ∀ e w', R e w' → R' e w') : YieldAt F m P r args w R' := by
  obtain ⟨fn, tm, as, bd, hy, hR⟩ := h
  exact ⟨fn, tm, as, bd, hy, hR.mono hr⟩
theorem no_lets1 {K : Act → World → Prop} : ¬ LetsOut (Exit.then K fun _ _ _ => False) := fun ⟨_, _, h⟩ => h
end Go.Sx

/- Own words: a list of texts among the arguments: its room, and what each text weighs. -/
set_option linter.unusedVariables false
set_option linter.unusedSimpArgs false
namespace Go.Sx
open Go.RowKit Go.WideShapes Go.ChangeAt Go.ChangeShapes
section
variable {H : Type} {enc : TypeId × Value → H} {P : Program} {W : World} {base : Nat} {held : Bool}
theorem weightsAll_mem {e : TypeId} : ∀ {l : List (DataW H)} {d : DataW H} {z : Nat}, d ∈ l → z ∈ d.weights P e → z ∈ DataW.weightsAll P e l
  | [], _, _, h, _ => by cases h
  | x :: l, d, z, h, hz => by
    rw [DataW.weightsAll]
    rcases List.mem_cons.1 h with rfl | h
    · exact List.mem_append_left _ hz
    · exact List.mem_append_right _ (weightsAll_mem h hz)
end
end Go.Sx

/- Own words: a slice among the arguments, row by row, with what each row weighs. -/
set_option linter.unusedVariables false
set_option linter.unusedSimpArgs false
namespace Go.Sx
open Go.RowKit Go.WideShapes Go.ChangeAt Go.ChangeShapes
section
variable {H : Type} {enc : TypeId × Value → H} {P : Program} {W : World} {sp : Nat → Bool} {held : Bool} {t e : TypeId} {cs : List Value}
theorem Trw.sliceC (h : Trw enc P W sp held t cs) (ht : P.underlying t = some (.slice e)) (hz : 0 < P.cellsOf e) : ∃ a m c, cs = [.slice a m c] ∧ m ≤ c ∧ m ≤ 9223372036854775807 ∧ ∃ rows : List (List Value), rows.length = m ∧ Rd W a rows.flatten ∧ ∀ r ∈ rows, r.length = P.cellsOf e ∧ Trw enc P W sp held e r := by
  obtain ⟨fuel, x, hf, hw⟩ := h
  rcases Go.Deep.open_slice ht hf with ⟨h0, _⟩ | ⟨a, len, cap, m, n, D, Pl, h0, _, hl, hm, hmm, hx, hel⟩
  · exact ⟨none, 0, 0, h0, by omega, by omega, [], rfl, .inl rfl, by simp⟩
  · have hle : len ≤ m := by rw [hmm]; split <;> omega
    unfold maxLen at hm
    have hwd : ∀ i, i < len → ∀ z ∈ (D i).weights P e, z ≤ reachBytes := fun i hi z hz => by
      refine hw z ?_
      subst hx
      simp only [DataW.weights, ht]
      exact List.mem_cons_of_mem _ (List.mem_append_left _ (weightsAll_mem (List.mem_map.2 ⟨i, by simpa using hi, rfl⟩) hz))
    have hrow : ∀ i, i < len → ∃ cs', W.cells? 0 (a.add (i * P.cellsOf e)) (P.cellsOf e) = some cs' ∧ Trw enc P W sp held e cs' := fun i hi => by
      obtain ⟨cs', h1, h2⟩ := hel i (by omega)
      exact ⟨cs', h1, n, _, h2, hwd i hi⟩
    let f : Nat → List Value := fun i => (W.cells? 0 (a.add (i * P.cellsOf e)) (P.cellsOf e)).getD []
    have hf' : ∀ i, i < len → W.cells? 0 (a.add (i * P.cellsOf e)) (P.cellsOf e) = some (f i) ∧ Trw enc P W sp held e (f i) := fun i hi => by
      obtain ⟨cs', h1, h2⟩ := hrow i hi
      have : f i = cs' := by show (W.cells? 0 _ _).getD [] = cs'; rw [h1]; rfl
      rw [this]
      exact ⟨h1, h2⟩
    refine ⟨some a, len, cap, h0, hl, by omega, (List.range len).map f, by simp, ?_, ?_⟩
    · by_cases h00 : len = 0
      · subst h00; exact .inl rfl
      · right
        refine ⟨a, rfl, Rd.flat (z := P.cellsOf e) (fun r hr => ?_) hz fun i j v hv => ?_⟩
        · obtain ⟨i, hi, rfl⟩ := List.mem_map.1 hr
          exact (cells_get (hf' i (by simpa using hi)).1).1
        · have h00' := cells_get (hf' 0 (by omega)).1
          have c0 : ∃ u, W.cell? a = some u := by
            have h1 := h00'.2 0 hz
            rw [Nat.zero_mul, add_zero, add_zero] at h1
            exact ⟨_, by rw [h1]; exact List.getElem?_eq_getElem (by omega)⟩
          obtain ⟨u, hu⟩ := c0
          simp only [List.getElem?_map, Option.bind_eq_some_iff, Option.map_eq_some_iff] at hv
          obtain ⟨r, ⟨i', hi', rfl⟩, hv⟩ := hv
          have hi : i < len ∧ i' = i := by
            have := List.getElem?_eq_some_iff.1 hi'
            obtain ⟨h1, h2⟩ := this
            simp at h1 h2
            omega
          obtain ⟨hi, rfl⟩ := hi
          obtain ⟨h1, h2⟩ := cells_get (hf' i' hi).1
          have hj : j < P.cellsOf e := by
            have := (List.getElem?_eq_some_iff.1 hv).1
            omega
          rw [← add_add0 hu, h2 j hj]
          exact hv
    · intro r hr
      obtain ⟨i, hi, rfl⟩ := List.mem_map.1 hr
      have := hf' i (by simpa using hi)
      exact ⟨(cells_get this.1).1, this.2⟩
end
end Go.Sx

/- Arguments with weights: how many elements a slice may have. -/
namespace Go.Sx
open Go.RowKit
variable {H : Type} {enc : TypeId × Value → H} {P : Program} {W : World} {sp : Nat → Bool} {held : Bool} {t e : TypeId} {cs : List Value}
theorem Trw.sliceB (h : Trw enc P W sp held t cs) (ht : P.underlying t = some (.slice e)) {A : Option Addr} {n c : Nat} (e0 : cs = [.slice A n c]) : n * P.bytesOf e ≤ reachBytes := by
  obtain ⟨fuel, x, hf, hw⟩ := h
  rcases Go.Deep.open_slice ht hf with ⟨h0, _⟩ | ⟨a, len, cap, m, k, D, Pl, h0, _, hl, hm, hmm, hx, hel⟩
  · rw [h0] at e0
    have e1 := (List.cons.inj e0).1
    injection e1 with e2 e3 e4
    rw [← e3, Nat.zero_mul]
    exact Nat.zero_le _
  · rw [h0] at e0
    have e1 := (List.cons.inj e0).1
    injection e1 with e2 e3 e4
    subst e3
    have h1 := hw ((len + (m - len)) * P.bytesOf e) (by subst hx; simp [DataW.weights, ht])
    exact Nat.le_trans (Nat.mul_le_mul_right _ (Nat.le_add_right _ _)) h1
end Go.Sx
