/- Own words for walks: one step of a walk at a time. -/
import Derived.Test.YtaeahloenahelaaDoorSxA
import Derived.WalkKit
set_option linter.unusedVariables false
set_option linter.unusedSimpArgs false
namespace Go.Sx
open Go.RowKit

variable {P : Program} {n : Nat} {S : List Nat} {w0 : World} {ss : List (Nat × Value)} {l : List It}
variable {ops : Array Oper} {Q : Exit → Act → World → Prop} {rest : List Oper} {o : Oper} {a : Act} {w : World}

/-! ### Values that an operation yields whatever the world of that kind -/
def Yld (P : Program) (n : Nat) (S : List Nat) (w0 : World) (ss : List (Nat × Value)) (l : List It) (o : Oper) (v : Value) : Prop :=
  ∀ a w, Fr n ss a → Sep S w0 w l → (execOp a.eval o).run P w = .ok (.value v) w

def wantB (ops : Array Oper) (ss : List (Nat × Value)) (o : Oper) : Option Bool :=
  match o.guard with
  | none => some true
  | some (j, want) =>
    match (ops[j]?).bind (·.dst) with
    | none => none
    | some d => match find ss d with
      | some (.bool b) => some (b == want)
      | some (.tuple _) => some false
      | _ => none

theorem wanted_of {b : Bool} (hF : Fr n ss a) (h : wantB ops ss o = some b) : Region.wanted o (yielded ops a.tmps) = b := by
  unfold wantB at h
  unfold Region.wanted
  split at h
  · rename_i hg
    simp only [hg]
    simpa using h
  · rename_i j want hg
    simp only [hg]
    split at h
    · simp at h
    · rename_i d hd
      split at h
      · rename_i x hx
        have h1 := hF.ok _ _ hx
        have hy : yielded ops a.tmps j = some x := by simp [yielded, hd, h1]
        rw [hy]
        have h2 : (x == want) = b := by simpa using h
        rw [← h2]
        cases x <;> cases want <;> rfl
      · rename_i x hx
        have h1 := hF.ok _ _ hx
        have hy : yielded ops a.tmps j = none := by simp [yielded, hd, h1]
        rw [hy]
        have h2 : b = false := by simpa using h.symm
        rw [h2]
        rfl
      · simp at h

theorem plain {d : Nat} {v : Value} (hy : Yld P n S w0 ss l o v) (hw : wantB ops ss o = some true) (hd : o.dst = some d) (hn : Nat.ble (d + 1) n = true) (H : St n S w0 ss l a w)
    (K : ∀ a', St n S w0 ((d, v) :: ss) l a' w → wpList P ops Q rest a' w) : wpList P ops Q (o :: rest) a w := by
  unfold wpList
  rw [if_pos (wanted_of H.fr hw)]
  refine .inl ?_
  unfold Oper.wp
  rw [hy a w H.fr H.sep]
  show wpList P ops Q rest (a.put o.dst v) w
  rw [hd]
  exact K _ ⟨H.fr.put (Nat.lt_of_succ_le (Nat.le_of_ble_eq_true hn)) v, H.sep⟩

theorem skip {d : Nat} (hw : wantB ops ss o = some false) (hd : o.dst = some d) (hn : Nat.ble (d + 1) n = true) (H : St n S w0 ss l a w)
    (K : ∀ a', St n S w0 ((d, undef) :: ss) l a' w → wpList P ops Q rest a' w) : wpList P ops Q (o :: rest) a w := by
  unfold wpList
  rw [if_neg (by rw [wanted_of H.fr hw]; simp)]
  rw [hd]
  exact K _ ⟨H.fr.put (Nat.lt_of_succ_le (Nat.le_of_ble_eq_true hn)) _, H.sep⟩

/-- An operation that yields a value and leaves another world. -/
theorem does {d : Nat} (hw : wantB ops ss o = some true) (hd : o.dst = some d) (hn : Nat.ble (d + 1) n = true) (H : St n S w0 ss l a w) {v : Value} {w' : World} {l' : List It}
    (hr : (execOp a.eval o).run P w = .ok (.value v) w') (hs : Sep S w0 w' l')
    (K : ∀ a', St n S w0 ((d, v) :: ss) l' a' w' → wpList P ops Q rest a' w') : wpList P ops Q (o :: rest) a w := by
  unfold wpList
  rw [if_pos (wanted_of H.fr hw)]
  refine .inl ?_
  unfold Oper.wp
  rw [hr]
  show wpList P ops Q rest (a.put o.dst v) w'
  rw [hd]
  exact K _ ⟨H.fr.put (Nat.lt_of_succ_le (Nat.le_of_ble_eq_true hn)) v, hs⟩

theorem does_none (hw : wantB ops ss o = some true) (hd : o.dst = none) (H : St n S w0 ss l a w) {w' : World} {l' : List It}
    (hr : (execOp a.eval o).run P w = .ok .skip w') (hs : Sep S w0 w' l')
    (K : St n S w0 ss l' a w' → wpList P ops Q rest a w') : wpList P ops Q (o :: rest) a w := by
  unfold wpList
  rw [if_pos (wanted_of H.fr hw)]
  refine .inl ?_
  unfold Oper.wp
  rw [hr]
  show wpList P ops Q rest (a.put o.dst undef) w'
  rw [hd]
  exact K ⟨H.fr, hs⟩

/-- The end of a region. -/
theorem reg {id : Nat} {rl : List Oper} (h : wpList P rl.toArray Q rl a w) : (Code.region id rl.toArray false).wp P Q a w := wp_region_lit h
theorem fin (h : Q .normal a w) : wpList P ops Q [] a w := h

/-! ### Regions that draw their order, quiet ones -/
theorem qreg {id : Nat} {rl : List Oper} (hm : P.follows .mixedOrders = true) (hB : Region.lexB .any rl.toArray = true) (H : St n S w0 ss l a w)
    (h : wpQuiet P rl.toArray (fun w' => Sep S w0 w' l) (fun a' => ∀ w', Sep S w0 w' l → Q .normal a' w') rl a) : (Code.region id rl.toArray true).wp P Q a w :=
  wp_region_quiet (C := fun w' => Sep S w0 w' l) hm hB (H.sep.drewN 1) (by simpa using h)

variable {Qa : Act → Prop}
theorem qplain {d : Nat} {v : Value} (hy : Yld P n S w0 ss l o v) (hw : wantB ops ss o = some true) (hd : o.dst = some d) (hn : Nat.ble (d + 1) n = true) (H : Fr n ss a)
    (K : ∀ a', Fr n ((d, v) :: ss) a' → wpQuiet P ops (fun w' => Sep S w0 w' l) Qa rest a') : wpQuiet P ops (fun w' => Sep S w0 w' l) Qa (o :: rest) a := by
  unfold wpQuiet
  rw [if_pos (wanted_of H hw)]
  refine ⟨v, fun w hs => ?_, ?_⟩
  · unfold Oper.quietAt
    rw [hy a w H hs]
    exact ⟨rfl, rfl⟩
  · rw [hd]
    exact K _ (H.put (Nat.lt_of_succ_le (Nat.le_of_ble_eq_true hn)) v)
theorem qfin (F : Fr n ss a) (h : ∀ w', St n S w0 ss l a w' → Q .normal a w') : wpQuiet P ops (fun w' => Sep S w0 w' l) (fun a' => ∀ w', Sep S w0 w' l → Q .normal a' w') [] a :=
  fun w' hs => h w' ⟨F, hs⟩

/-! ### Control -/
theorem then_n {next : Act → World → Prop} (h : next a w) : Exit.then next Q .normal a w := h
theorem then_x {next : Act → World → Prop} {id : Nat} (h : Q (.exit id) a w) : Exit.then next Q (.exit id) a w := h
theorem then_r {next : Act → World → Prop} (h : Q .ret a w) : Exit.then next Q .ret a w := h
theorem inb_n {id : Nat} (h : Q .normal a w) : Exit.inBlock id Q .normal a w := h
theorem inb_r {id : Nat} (h : Q .ret a w) : Exit.inBlock id Q .ret a w := h
theorem inb_hit {id : Nat} (h : Q .normal a w) : Exit.inBlock id Q (.exit id) a w := by simpa [Exit.inBlock] using h
theorem cnd {c : Operand} {x y : Code} {t : Bool} (H : St n S w0 ss l a w) (hc : evO ss c = some (.bool t)) (ht : t = true → x.wp P Q a w) (hf : t = false → y.wp P Q a w) : (Code.cond c x y).wp P Q a w :=
  wp_cond_split (H.fr.ev hc) ht hf
theorem cnd_d {c : Operand} {x y : Code} {p : Prop} [Decidable p] (H : St n S w0 ss l a w) (hc : evO ss c = some (.bool (decide p))) (ht : p → x.wp P Q a w) (hf : ¬ p → y.wp P Q a w) : (Code.cond c x y).wp P Q a w :=
  wp_cond_split (H.fr.ev hc) (fun h => ht (of_decide_eq_true h)) (fun h => hf (of_decide_eq_false h))
theorem cnd_t {c : Operand} {x y : Code} (H : St n S w0 ss l a w) (hc : evO ss c = some (.bool true)) (ht : x.wp P Q a w) : (Code.cond c x y).wp P Q a w :=
  wp_cond_true (H.fr.ev hc) ht
theorem cnd_f {c : Operand} {x y : Code} (H : St n S w0 ss l a w) (hc : evO ss c = some (.bool false)) (hf : y.wp P Q a w) : (Code.cond c x y).wp P Q a w :=
  wp_cond_false (H.fr.ev hc) hf

/-- A bool that a guard asks: both ways. -/
theorem part {G : Prop} {d : Nat} {t : Bool} (H : St n S w0 ss l a w) (hd : find ss d = some (.bool t)) (ht : t = true → St n S w0 ((d, .bool true) :: ss) l a w → G) (hf : t = false → St n S w0 ((d, .bool false) :: ss) l a w → G) : G := by
  cases t with
  | true => exact ht rfl (H.know hd rfl)
  | false => exact hf rfl (H.know hd rfl)
theorem part_d {G : Prop} {d : Nat} {p : Prop} [Decidable p] (H : St n S w0 ss l a w) (hd : find ss d = some (.bool (decide p))) (ht : p → St n S w0 ((d, .bool true) :: ss) l a w → G) (hf : ¬ p → St n S w0 ((d, .bool false) :: ss) l a w → G) : G := by
  by_cases h : p
  · exact ht h (H.know hd (by simp [h]))
  · exact hf h (H.know hd (by simp [h]))
/-- A loop: what a number (or more) i tells of the frame and of what is owned. -/
theorem loop_aux {ι : Type} {c : Code} (I : ι → Act → World → Prop) (μ : ι → Nat)
    (round : ∀ i a w, I i a w → c.wp P (Exit.then (fun a' w' => ∃ i', μ i' < μ i ∧ I i' a' w') Q) a w) :
    ∀ m i a w, μ i = m → I i a w → ∀ b k cs, ∃ e a' w', Q e a' w' ∧ Arrives P (lone (b.at a (.code c :: .inLoop c :: k)) cs w) b k cs e a' w' := by
  intro m
  induction m using Nat.strongRecOn with
  | _ m ih =>
    intro i a w hm hI b k cs
    obtain ⟨e, a₁, w₁, hq, harr⟩ := round i a w hI b (.inLoop c :: k) cs
    cases e with
    | normal =>
      obtain ⟨i', hlt, hI'⟩ := hq
      obtain ⟨e₂, a₂, w₂, hq₂, harr₂⟩ := ih (μ i') (hm ▸ hlt) i' a₁ w₁ rfl hI' b k cs
      exact ⟨e₂, a₂, w₂, hq₂, .of_steps (Steps.trans harr (.one step_inLoop)) harr₂⟩
    | exit id => exact ⟨_, a₁, w₁, hq, .pass (x := .inLoop c) rfl (fun _ _ => .inl (by simp)) harr⟩
    | goto l => exact ⟨_, a₁, w₁, hq, .pass (x := .inLoop c) rfl (fun _ _ => .inl (by simp)) harr⟩
    | ret => exact ⟨_, a₁, w₁, hq, .pass (x := .inLoop c) rfl (fun _ _ => .inl (by simp)) harr⟩
    | panic ch => exact ⟨_, a₁, w₁, hq, .pass (x := .inLoop c) rfl (fun _ _ => .inl (by simp)) harr⟩
    | outgrown => exact ⟨_, a₁, w₁, hq, .pass (x := .inLoop c) rfl (fun _ _ => .inl (by simp)) harr⟩

/-- A loop: what a datum i tells of the frame and of what is owned; each round comes to a smaller one. -/
theorem loop {ι : Type} {c : Code} (ssf : ι → List (Nat × Value)) (lf : ι → List It) (ok : ι → Prop) (μ : ι → Nat) (i0 : ι) (h0 : ok i0) (H : St n S w0 (ssf i0) (lf i0) a w)
    (round : ∀ i a w, ok i → St n S w0 (ssf i) (lf i) a w → c.wp P (Exit.then (fun a' w' => ∃ i', μ i' < μ i ∧ ok i' ∧ St n S w0 (ssf i') (lf i') a' w') Q) a w) : (Code.loop c).wp P Q a w := by
  intro b k cs
  obtain ⟨e, a', w', hq, harr⟩ := loop_aux (P := P) (Q := Q) (c := c) (fun i a w => ok i ∧ St n S w0 (ssf i) (lf i) a w) μ (fun i a w h => round i a w h.1 h.2) _ i0 a w rfl ⟨h0, H⟩ b k cs
  exact ⟨e, a', w', hq, .of_steps (.one step_loop) harr⟩

/-- What meets again. -/
def cutQ (I : Act → World → Prop) (Q : Exit → Act → World → Prop) : Exit → Act → World → Prop
  | .normal, a, w => I a w
  | e, a, w => Q e a w
theorem wp_cut {c : Code} (I : Act → World → Prop) (h : c.wp P (cutQ I Q) a w) (k : ∀ a w, I a w → Q .normal a w) : c.wp P Q a w :=
  Code.wp_mono (fun e a w q => by cases e with
    | normal => exact k a w q
    | _ => exact q) h
theorem cut_n {I : Act → World → Prop} (h : I a w) : cutQ I Q .normal a w := h
/-! ### Begin and end of a function -/
theorem enter {f : FuncId} {fn : Func} {c : Code} {args : Array Value} {w : World} {R : Ending → World → Prop} (hf : P.funcs[f]? = some fn) (hb : fn.body = some c) {l : List It} (hS : Sep S w w l)
    (ss : List (Nat × Value)) (hss : ∀ t v, find ss t = some v → args[t]? = some v) (hn : Nat.ble args.size fn.ntmps = true)
    (h : ∀ a, St fn.ntmps S w ss l a w → c.wp P (bodyPost P fn R) a w) : Calls P f args w R := by
  refine calls_of_wp hf hb (h _ ⟨⟨?_, rfl, fun t v ht => ?_⟩, hS⟩)
  · simp
    have := Nat.le_of_ble_eq_true hn
    omega
  · have h1 := hss t v ht
    have h2 : t < args.size := (Array.getElem?_eq_some_iff.1 h1).1
    show (args ++ _)[t]? = some v
    rw [Array.getElem?_append_left h2]
    exact h1

/-- The arguments, one slot each. -/
def slots : Nat → List Value → List (Nat × Value)
  | _, [] => []
  | k, v :: r => (k, v) :: slots (k + 1) r
theorem find_slots : ∀ (r : List Value) (k t : Nat) (v : Value), find (slots k r) t = some v → k ≤ t ∧ r[t - k]? = some v
  | [], k, t, v, h => by simp [slots, find] at h
  | x :: r, k, t, v, h => by
    simp only [slots, find] at h
    cases hb : Nat.beq k t with
    | true =>
      rw [hb] at h
      have e : k = t := Nat.eq_of_beq_eq_true hb
      subst e
      simp only [cond_true, Option.some.injEq] at h
      simp [h]
    | false =>
      rw [hb] at h
      have e : k ≠ t := fun e => by subst e; simp at hb
      simp only [cond_false] at h
      obtain ⟨h1, h2⟩ := find_slots r (k + 1) t v h
      refine ⟨by omega, ?_⟩
      have : t - k = (t - (k + 1)) + 1 := by omega
      rw [this]
      simpa using h2

theorem enterL {f : FuncId} {fn : Func} {c : Code} {args : List Value} {w : World} {R : Ending → World → Prop} (hf : P.funcs[f]? = some fn) (hb : fn.body = some c) (hn : Nat.ble args.length fn.ntmps = true) {l : List It} (hS : Sep S w w l)
    (h : ∀ a, St fn.ntmps S w (slots 0 args) l a w → c.wp P (bodyPost P fn R) a w) : Calls P f args.toArray w R :=
  enter hf hb hS (slots 0 args) (fun t v ht => by have := (find_slots args 0 t v ht).2; simpa using this) (by simpa using hn) h

theorem end0 {fn : Func} {R : Ending → World → Prop} (hr : fn.results = #[]) (H : St n S w0 ss l a w) (h : R (.returned (.tuple #[])) w) : bodyPost P fn R .normal a w :=
  bodyPost_end (results_none hr _ _ _) H.fr.df h
theorem getD_of {t : Nat} {v : Value} (F : Fr n ss a) (h : find ss t = some v) : a.tmps.getD t undef = v := F.ev (x := .tmp t) h
theorem ret1 {fn : Func} {R : Ending → World → Prop} {t : Nat} {v : Value} (hr : fn.results = #[.tmp t]) (H : St n S w0 ss l a w) (hv : find ss t = some v) (h : R (.returned v) w) : bodyPost P fn R .ret a w :=
  bodyPost_ret (v := v) (by rw [results_tmp hr, getD_of H.fr hv]) H.fr.df h
theorem ret2 {fn : Func} {R : Ending → World → Prop} {t u : Nat} {v x : Value} (hr : fn.results = #[.tmp t, .tmp u]) (H : St n S w0 ss l a w) (hv : find ss t = some v) (hx : find ss u = some x) (h : R (.returned (.tuple #[v, x])) w) : bodyPost P fn R .ret a w :=
  bodyPost_ret (v := .tuple #[v, x]) (by rw [results_tmp2 hr, getD_of H.fr hv, getD_of H.fr hx]) H.fr.df h
end Go.Sx
