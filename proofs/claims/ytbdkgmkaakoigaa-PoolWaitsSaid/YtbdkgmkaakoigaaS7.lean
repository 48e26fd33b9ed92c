/- Part of a proof about given Go functions: contracts of functions, or plain laws. -/
import Derived.Test.YtbdkgmkaakoigaaS6
import Derived.Test.YtbdkgmkaakoigaaS5
/- The pool's calls, step by step, in plain Lean. -/
namespace Go.Pool
open Go.Sx
open Go.Txs (Tx within)
open Go.Note (Z I64)
def pickI (o : Option Nat) : Int := match o with | none => -1 | some k => (k : Int)
theorem pickI_in {L : List Wait} {nx : List Int} {now : Int} (k : Nat) : -1 ≤ pickI (pick L nx now k) ∧ pickI (pick L nx now k) < (k : Int) := by
  cases h : pick L nx now k with
  | none => exact ⟨by show (-1 : Int) ≤ -1; omega, by show (-1 : Int) < k; omega⟩
  | some j =>
    have := (pick_lt h).1
    exact ⟨by show (-1 : Int) ≤ j; omega, by show (j : Int) < k; omega⟩
theorem pick_y {L : List Wait} {nx : List Int} {now : Int} {k : Nat} (hr : (L.getD k Wait.zero).time ≤ now ∧ (L.getD k Wait.zero).tx.nonce = nx.getD (L.getD k Wait.zero).tx.src.toNat 0) (h : pickI (pick L nx now k) < 0 ∨ less (L.getD k Wait.zero) (L.getD (pickI (pick L nx now k)).toNat Wait.zero)) : pickI (pick L nx now (k + 1)) = (k : Int) := by
  have hr : ready nx now (L.getD k Wait.zero) := hr
  cases e : pick L nx now k with
  | none =>
    rw [pick, e]
    simp only [if_pos hr]
    rfl
  | some j =>
    rw [e] at h
    have h : less (L.getD k Wait.zero) (L.getD j Wait.zero) := by
      rcases h with h | h
      · have : ((j : Int) < 0) := h
        omega
      · exact h
    rw [pick, e]
    simp only [if_pos (And.intro hr h)]
    rfl
theorem pick_n {L : List Wait} {nx : List Int} {now : Int} {k : Nat} (h : ¬ (((L.getD k Wait.zero).time ≤ now ∧ (L.getD k Wait.zero).tx.nonce = nx.getD (L.getD k Wait.zero).tx.src.toNat 0) ∧ (pickI (pick L nx now k) < 0 ∨ less (L.getD k Wait.zero) (L.getD (pickI (pick L nx now k)).toNat Wait.zero)))) : pickI (pick L nx now (k + 1)) = pickI (pick L nx now k) := by
  cases e : pick L nx now k with
  | none =>
    rw [e] at h
    have hr : ¬ ready nx now (L.getD k Wait.zero) := fun z => h ⟨z, .inl (by show (-1 : Int) < 0; omega)⟩
    rw [pick, e]
    simp only [if_neg hr]
  | some j =>
    rw [e] at h
    have hr : ¬ (ready nx now (L.getD k Wait.zero) ∧ less (L.getD k Wait.zero) (L.getD j Wait.zero)) := fun z => h ⟨z.1, .inr z.2⟩
    rw [pick, e]
    simp only [if_neg hr]
theorem pick_end {L : List Wait} {nx : List Int} {now : Int} {k : Nat} (h : pickI (pick L nx now k) < 0) : pick L nx now k = none := by
  cases e : pick L nx now k with
  | none => rfl
  | some j =>
    rw [e] at h
    have : (j : Int) < 0 := h
    omega
theorem pick_is {L : List Wait} {nx : List Int} {now : Int} {k : Nat} (h : ¬ pickI (pick L nx now k) < 0) : ∃ j : Nat, pick L nx now k = some j ∧ pickI (pick L nx now k) = (j : Int) ∧ j < k := by
  cases e : pick L nx now k with
  | none => rw [e] at h; exact absurd (show (-1 : Int) < 0 by omega) h
  | some j => exact ⟨j, rfl, rfl, (pick_lt e).1⟩
theorem one_int (n : Int) : ∀ u ∈ (Value.int .i64 n).cells.toList, u.oneCell' = true := fun u hu => by
  have : u = Value.int .i64 n := List.mem_singleton.1 hu
  rw [this]
  rfl
/-- Raised so far. -/
def rz (o : Wait) (L : List Wait) (k : Nat) : List Wait := (L.take k).map (raise o) ++ L.drop k
theorem rz_0 (o : Wait) (L : List Wait) : rz o L 0 = L := by simp [rz]
theorem rz_all {o : Wait} {L : List Wait} {k : Nat} (h : L.length ≤ k) : rz o L k = L.map (raise o) := by
  unfold rz
  rw [List.take_of_length_le h, List.drop_eq_nil_of_le h, List.append_nil]
theorem rz_len (o : Wait) (L : List Wait) (k : Nat) : (rz o L k).length = L.length := by
  unfold rz
  rw [List.length_append, List.length_map, List.length_take, List.length_drop]
  omega
theorem rz_getD {o : Wait} {L : List Wait} {k : Nat} : (rz o L k).getD k Wait.zero = L.getD k Wait.zero := by
  unfold rz
  by_cases hk : k < L.length
  · rw [List.getD_eq_getElem?_getD, List.getElem?_append_right (by rw [List.length_map, List.length_take]; omega), List.length_map, List.length_take, Nat.min_eq_left (by omega), Nat.sub_self, List.getElem?_drop, Nat.add_zero, List.getD_eq_getElem?_getD]
  · rw [List.getD_eq_getElem?_getD, List.getD_eq_getElem?_getD, List.getElem?_eq_none (by rw [List.length_append, List.length_map, List.length_take, List.length_drop]; omega), List.getElem?_eq_none (by omega)]
theorem Wfs.rz {L : List Wait} (h : Wfs L) {o : Wait} (ho : o.Wf) (k : Nat) : Wfs (rz o L k) := fun x hx => by
  unfold Pool.rz at hx
  rcases List.mem_append.1 hx with hx | hx
  · exact (h.take k).raise ho x hx
  · exact h x (List.mem_of_mem_drop hx)
theorem rz_next {o : Wait} {L : List Wait} {k : Nat} (hk : k < L.length) : rz o L (k + 1) = (rz o L k).set k (raise o (L.getD k Wait.zero)) := by
  have e1 : ((L.take k).map (raise o)).length = k := by rw [List.length_map, List.length_take]; omega
  unfold rz
  rw [Oct.take_succ Wait.zero hk, List.set_append_right _ _ (by omega), e1, Nat.sub_self, List.map_append, List.append_assoc]
  congr 1
  have : L.drop k = L.getD k Wait.zero :: L.drop (k + 1) := by rw [getD_el hk]; exact List.drop_eq_getElem_cons hk
  rw [this]
  rfl
theorem rz_no {o : Wait} {L : List Wait} {k : Nat} (hk : k < L.length) (h : ¬ follows o (L.getD k Wait.zero)) : rz o L (k + 1) = rz o L k := by
  rw [rz_next hk, show raise o (L.getD k Wait.zero) = L.getD k Wait.zero from if_neg h]
  have hl : k < (rz o L k).length := by rw [rz_len]; exact hk
  have : (rz o L k)[k] = L.getD k Wait.zero := by rw [← getD_el hl, rz_getD]
  rw [← this, List.set_getElem_self]
theorem wc_at_set {L : List Wait} (h : Wfs L) {i : Nat} (hi : i < L.length) (x : Wait) (c : Nat) (v : Value) (hc : c < 76) (hx : Wait.cells x = (Wait.cells (L.getD i Wait.zero)).set c v) : wc (L.set i x) = spl (wc L) (i * 76 + c) [v] := by
  have hl : (wc L).length = L.length * 76 := wc_len h
  rw [spl_one _ _ _ (by omega)]
  have e1 : L = L.take i ++ L.getD i Wait.zero :: L.drop (i + 1) := by
    rw [getD_el hi]
    simp
  have e2 : L.set i x = L.take i ++ x :: L.drop (i + 1) := by rw [List.set_eq_take_append_cons_drop, if_pos hi]
  have e3 : (wc (L.take i)).length = i * 76 := by rw [wc_len (h.take i), List.length_take, Nat.min_eq_left (by omega)]
  have e4 : ∀ y, wc (L.take i ++ y :: L.drop (i + 1)) = wc (L.take i) ++ (Wait.cells y ++ wc (L.drop (i + 1))) := fun y => by simp [wc]
  have e5 : (Wait.cells (L.getD i Wait.zero)).length = 76 := (h.at_ hi).len
  rw [e2, e4, hx]
  conv => rhs; rw [e1, e4]
  rw [List.set_append_right _ _ (by omega), e3, show i * 76 + c - i * 76 = c by omega, List.set_append_left _ _ (by omega)]
theorem cells_time {x : Wait} (h : x.Wf) (t : Int) : Wait.cells { x with time := t } = (Wait.cells x).set 74 (i64 t) := by
  have h1 := h.tx.hand
  have h2 := h.tx.tag
  have e := Tx.cells_len h1 h2
  rw [Wait.cells_is, Wait.cells_is, List.set_append_right _ _ (by omega), e]
  rfl
theorem cells_place {x : Wait} (h : x.Wf) (t : Int) : Wait.cells { x with place := t } = (Wait.cells x).set 75 (i64 t) := by
  have h1 := h.tx.hand
  have h2 := h.tx.tag
  have e := Tx.cells_len h1 h2
  rw [Wait.cells_is, Wait.cells_is, List.set_append_right _ _ (by omega), e]
  rfl
theorem set_getD {L : List Wait} {i : Nat} (hi : i < L.length) (x : Wait) : (L.set i x).getD i Wait.zero = x := by
  rw [getD_el (by rw [List.length_set]; exact hi)]
  exact List.getElem_set_self _
theorem rz_yes {o : Wait} {L : List Wait} (hL : Wfs L) (ho : o.Wf) {k : Nat} (hk : k < L.length) (h : follows o (L.getD k Wait.zero)) : spl (spl (wc (rz o L k)) (k * 76 + 74) [i64 o.time]) (k * 76 + 75) [i64 o.place] = wc (rz o L (k + 1)) := by
  have hw := hL.rz ho k
  have hl : k < (rz o L k).length := by rw [rz_len]; exact hk
  have hx := hL.at_ hk
  have h1 := wc_at_set hw hl { L.getD k Wait.zero with time := o.time } 74 (i64 o.time) (by decide) (by rw [rz_getD]; exact cells_time hx _)
  rw [← h1]
  have hx2 : Wait.Wf { L.getD k Wait.zero with time := o.time } := { hx with time := ho.time }
  have hw2 : Wfs ((rz o L k).set k { L.getD k Wait.zero with time := o.time }) := fun y hy => by
    rcases List.mem_or_eq_of_mem_set hy with hy | rfl
    · exact hw y hy
    · exact hx2
  have h2 := wc_at_set hw2 (by rw [List.length_set]; exact hl) (raise o (L.getD k Wait.zero)) 75 (i64 o.place) (by decide) (by
    rw [set_getD hl, show raise o (L.getD k Wait.zero) = ⟨(L.getD k Wait.zero).tx, (L.getD k Wait.zero).index, (L.getD k Wait.zero).till, o.time, o.place⟩ from if_pos h]
    exact cells_place hx2 _)
  rw [← h2, List.set_set, ← rz_next hk]
end Go.Pool

/- Own words: function values beside nil. -/
set_option linter.unusedVariables false
set_option linter.unusedSimpArgs false
namespace Go.Sx
open Go.RowKit
variable {P : Program} {n : Nat} {S : List Nat} {w0 w : World} {ss : List (Nat × Value)} {l : List It} {o : Oper} {a : Act}
theorem run_fn_nil {t : TypeId} {p q : Array TypeId} {v : Bool} (m : Nat) (h : P.underlying t = some (.func p q v)) : (Op.equalIn (m + 1) t .nilFunc .nilFunc).run P w = .ok true w := by
  unfold Op.equalIn
  simp only [Sem.run_bind, run_underlying h, Result.andThen_ok]
  simp
theorem run_fn_fn {t : TypeId} {p q : Array TypeId} {v : Bool} {f : Fn} {x y : Array Value} (m : Nat) (h : P.underlying t = some (.func p q v)) : (Op.equalIn (m + 1) t (.func f x y) .nilFunc).run P w = .ok false w := by
  unfold Op.equalIn
  simp only [Sem.run_bind, run_underlying h, Result.andThen_ok]
  simp
theorem y_fneql {t t' : TypeId} {p q : Array TypeId} {v : Bool} {x y : Operand} (ho : o.op = .binOp .eql t x y t') (ht : P.underlying t = some (.func p q v)) (hx : evO ss x = some .nilFunc) (hy : evO ss y = some .nilFunc) : Yld P n S w0 ss l o (.bool true) := by
  intro a w F _
  have h1 := run_fn_nil (w := w) 9999 ht
  simp [execOp, ho, F.ev hx, F.ev hy, eqGuard, binOp, Op.equal, Op.maxDepth, h1]
theorem y_fyeql {t t' : TypeId} {p q : Array TypeId} {v : Bool} {x y : Operand} {f : Fn} {us vs : Array Value} (ho : o.op = .binOp .eql t x y t') (ht : P.underlying t = some (.func p q v)) (hx : evO ss x = some (.func f us vs)) (hy : evO ss y = some .nilFunc) : Yld P n S w0 ss l o (.bool false) := by
  intro a w F _
  have h1 := run_fn_fn (w := w) (f := f) (x := us) (y := vs) 9999 ht
  simp [execOp, ho, F.ev hx, F.ev hy, eqGuard, binOp, Op.equal, Op.maxDepth, h1]
end Go.Sx

/- The pool's first calls, in plain Lean. -/
namespace Go.Pool
open Go.Sx
open Go.Txs (Tx within)
open Go.Note (Z I64)
theorem wf_nil : Wfs [] := fun x hx => absurd hx (by simp)
theorem put_size (p : Pool) (w : Wait) : (put p w).1 = ⟨p.size, (put p w).1.L⟩ := by
  unfold put
  split
  · rfl
  · split
    · rfl
    · split
      · rfl
      · split <;> rfl
theorem next_size (p : Pool) (nx : List Int) (now : Int) : (next p nx now).1 = ⟨p.size, (next p nx now).1.L⟩ := by
  unfold next
  split <;> rfl
theorem Good.put' {size : Int} {L : List Wait} (h : Good ⟨size, L⟩) (w : Wait) : Good ⟨size, (put ⟨size, L⟩ w).1.L⟩ := by
  have := good_put h w
  rwa [put_size] at this
theorem Good.next' {size : Int} {L : List Wait} (h : Good ⟨size, L⟩) (nx : List Int) (now : Int) : Good ⟨size, (next ⟨size, L⟩ nx now).1.L⟩ := by
  have := good_next h nx now
  rwa [next_size] at this
theorem Good.old' {size : Int} {L : List Wait} (h : Good ⟨size, L⟩) (now : Int) : Good ⟨size, L.filter fun w => !isOld now w⟩ := good_old h now
theorem Good.few {size : Int} {L : List Wait} (h : Good ⟨size, L⟩) : L.length ≤ 256 := by
  have h1 := h.fits
  have h2 := h.size
  dsimp only at h1 h2
  omega
theorem next_wf {size : Int} {L : List Wait} (h : Wfs L) (nx : List Int) (now : Int) : Wfs (next ⟨size, L⟩ nx now).1.L ∧ (next ⟨size, L⟩ nx now).2.1.Wf := by
  unfold next
  split
  · exact ⟨h, Wait.wf_zero⟩
  · rename_i k hk
    have hk := (pick_lt hk).1
    exact ⟨(h.erase k).raise (h.at_ hk), h.at_ hk⟩
def awA : Wait := ⟨⟨0, 1, 0, 0, [], false, 0, 0, Z, Z⟩, 0, 9, 2, 0⟩
def awC : Wait := ⟨⟨0, 1, 0, 0, [], false, 0, 0, Z, Z⟩, 0, 9, 5, 1⟩
def awB : Wait := ⟨⟨0, 0, 0, 0, [], false, 0, 0, Z, Z⟩, 1, 9, 5, 1⟩
theorem awTx_wf (n : Int) (h : I64 n) : Tx.Wf ⟨0, n, 0, 0, [], false, 0, 0, Z, Z⟩ := { Txs.Tx.wf_zero with nonce := h }
theorem awA_wf : awA.Wf := ⟨awTx_wf 1 ⟨by decide, by decide⟩, ⟨by decide, by decide⟩, ⟨by decide, by decide⟩, ⟨by decide, by decide⟩, ⟨by decide, by decide⟩⟩
theorem awB_wf : awB.Wf := ⟨awTx_wf 0 ⟨by decide, by decide⟩, ⟨by decide, by decide⟩, ⟨by decide, by decide⟩, ⟨by decide, by decide⟩, ⟨by decide, by decide⟩⟩
theorem awC_wf : awC.Wf := ⟨awTx_wf 1 ⟨by decide, by decide⟩, ⟨by decide, by decide⟩, ⟨by decide, by decide⟩, ⟨by decide, by decide⟩, ⟨by decide, by decide⟩⟩
theorem aw_put1 : put ⟨2, []⟩ awA = (⟨2, [awA]⟩, Wait.zero, false, 0) := rfl
theorem aw_put2 : put ⟨2, [awA]⟩ awB = (⟨2, [awA, awB]⟩, Wait.zero, false, 0) := rfl
theorem aw_next1 : next ⟨2, [awA, awB]⟩ (List.replicate 64 0) 4 = (⟨2, [awA, awB]⟩, Wait.zero, false) := rfl
theorem aw_next2 : next ⟨2, [awA, awB]⟩ (List.replicate 64 0) 5 = (⟨2, [awC]⟩, awB, true) := rfl
theorem aw_next3 : next ⟨2, [awC]⟩ (List.replicate 64 1) 5 = (⟨2, []⟩, awC, true) := rfl
theorem aw_g0 : Good ⟨2, []⟩ := good_new (by decide)
theorem aw_g1 : Good ⟨2, [awA]⟩ := aw_g0.put' awA
theorem aw_g2 : Good ⟨2, [awA, awB]⟩ := aw_g1.put' awB
theorem aw_g3 : Good ⟨2, [awC]⟩ := aw_g2.next' (List.replicate 64 0) 5
theorem aw_w1 : Wfs [awA] := fun x hx => by rw [List.mem_singleton.1 hx]; exact awA_wf
theorem aw_w2 : Wfs [awA, awB] := fun x hx => by
  rcases List.mem_cons.1 hx with rfl | hx
  · exact awA_wf
  · rw [List.mem_singleton.1 hx]; exact awB_wf
theorem aw_w3 : Wfs [awC] := fun x hx => by rw [List.mem_singleton.1 hx]; exact awC_wf
theorem rep_at (n : Int) {q : Int} (h : 0 ≤ q ∧ q ≤ 63) : (List.replicate 64 n).getD q.toNat 0 = n := by
  rw [List.getD_eq_getElem?_getD, List.getElem?_replicate, if_pos (by omega)]
  rfl
end Go.Pool

/- The reference's pool, step by step, in plain Lean. -/
namespace Go.Pool
open Go.Sx
open Go.Txs (Tx within)
open Go.Note (Z I64)
/-- All but one, so far. -/
def wo (L : List Wait) (n : Int) : List Wait := L.filter fun x => decide (x.index ≠ n)
theorem Wfs.wo {L : List Wait} (h : Wfs L) (n : Int) : Wfs (wo L n) := h.filter _
theorem Wfs.app {L M : List Wait} (h : Wfs L) (g : Wfs M) : Wfs (L ++ M) := fun x hx => by
  rcases List.mem_append.1 hx with hx | hx
  · exact h x hx
  · exact g x hx
theorem Wfs.one {x : Wait} (h : x.Wf) : Wfs [x] := fun y hy => by rw [List.mem_singleton.1 hy]; exact h
/-- What is left over, raised, so far. -/
def rw' (o : Wait) (L : List Wait) : List Wait := wo (L.map (raise o)) o.index
theorem Wfs.rw {L : List Wait} (h : Wfs L) {o : Wait} (ho : o.Wf) : Wfs (rw' o L) := (h.raise ho).wo _
end Go.Pool

/- Own words: an effect in a drawn region, said shortly. -/
set_option linter.unusedVariables false
namespace Go.Sx
open Go.RowKit
variable {P : Program} {S : List Nat} {w0 w : World} {l ls : List It} {a : Act} {rl : List Oper} {Q : Exit → Act → World → Prop} {fuel : Nat} {listed : Array Bool}
theorem hfinA (H : Sep S w0 w l) (h : wpAnyH P .any rl.toArray (NoPanic Q) (fun w => Sep S w0 w ls) fuel listed a w) (hs : ls.Sublist l := by repeat (first | exact S1 | exact S0 | apply S2 | apply S3)) : wpList P rl.toArray (HQ P rl Q (fun w => Sep S w0 w ls) fuel listed) [] a w := hfin (H.sub hs) h
end Go.Sx

/- Own words: items chosen out of what is given, in any order. -/
set_option linter.unusedVariables false
set_option linter.unusedSimpArgs false
namespace Go.Sx
open Go.RowKit
variable {P : Program} {n : Nat} {S : List Nat} {w0 w : World} {ss : List (Nat × Value)} {l : List It} {a : Act}
theorem Sep.these {is lr : List It} (H : Sep S w0 w l) (hp : Picks l is lr) : Sep S w0 w is := (H.perm hp.perm.symm).sub (List.sublist_append_left _ _)
theorem St.only {is lr : List It} (H : St n S w0 ss l a w) (hp : Picks l is lr) : St n S w0 ss is a w := ⟨H.fr, H.sep.these hp⟩
theorem rd_it {b : Nat} {E : TypeId} {cs : List Value} (h : (It.blk b E cs).P w) : Rd w (some ⟨b, 0, none⟩) cs := by
  have := Rd.blk (w := w) (b := b) (E := E) (c := cs.toArray) (fz := (0, 0)) h 0 cs.length
  simpa using this
theorem results_tmp4' {fn : Func} {t u s q : Tmp} (h : fn.results = #[.tmp t, .tmp u, .tmp s, .tmp q]) (tmps : Array Value) (P : Program) (w : World) :
    (results fn tmps).run P w = .ok (.tuple #[tmps.getD t undef, tmps.getD u undef, tmps.getD s undef, tmps.getD q undef]) w := by
  simp [results, h]
theorem ret4 {fn : Func} {R : Ending → World → Prop} {t u s q : Nat} {v x y z : Value} (hr : fn.results = #[.tmp t, .tmp u, .tmp s, .tmp q]) (H : St n S w0 ss l a w) (hv : find ss t = some v) (hx : find ss u = some x) (hy : find ss s = some y) (hz : find ss q = some z) (h : R (.returned (.tuple #[v, x, y, z])) w) : bodyPost P fn R .ret a w :=
  bodyPost_ret (v := .tuple #[v, x, y, z]) (by rw [results_tmp4' hr, getD_of H.fr hv, getD_of H.fr hx, getD_of H.fr hy, getD_of H.fr hz]) H.fr.df h
end Go.Sx

/- What is done to a pool, and what comes in over time, as cells. -/
namespace Go.Pool
open Go.Sx
open Go.Txs (Tx within)
open Go.Note (Z I64)
open Go.Inbox (flat_lenM flat_takeM flat_getM flat_pre memD)
structure Act where
  kind : Int
  n : Int
  w : Wait
def Act.zero : Act := ⟨0, 0, Wait.zero⟩
def Act.cells (a : Act) : List Value := i64 a.kind :: i64 a.n :: i64 a.w.tx.src :: i64 a.w.tx.nonce :: i64 a.w.tx.fee :: i64 a.w.tx.dst :: str a.w.tx.data :: .bool a.w.tx.lane :: i64 a.w.tx.round :: i64 a.w.tx.turn :: (a.w.tx.hand.map u8 ++ (a.w.tx.tag.map u8 ++ (i64 a.w.index :: i64 a.w.till :: i64 a.w.time :: [i64 a.w.place])))
theorem Act.cells_is (a : Act) : a.cells = i64 a.kind :: i64 a.n :: a.w.cells := rfl
structure Act.Wf (a : Act) : Prop where
  kind : I64 a.kind
  n : I64 a.n
  w : Wait.Wf a.w
theorem Act.Wf.len {a : Act} (h : a.Wf) : a.cells.length = 78 := by
  rw [Act.cells_is, List.length_cons, List.length_cons, h.w.len]
def Come.cells (c : Come) : List Value := .bool c.tick :: i64 c.tx.src :: i64 c.tx.nonce :: i64 c.tx.fee :: i64 c.tx.dst :: str c.tx.data :: .bool c.tx.lane :: i64 c.tx.round :: i64 c.tx.turn :: (c.tx.hand.map u8 ++ (c.tx.tag.map u8 ++ (.int .u8 c.delay :: [.int .u8 c.stay])))
structure Come.Wf (c : Come) : Prop where
  tx : Tx.Wf c.tx
  delay : 0 ≤ c.delay ∧ c.delay ≤ 255
  stay : 0 ≤ c.stay ∧ c.stay ≤ 255
theorem Come.Wf.len {c : Come} (h : c.Wf) : c.cells.length = 75 := by
  have h1 := h.tx.hand
  have h2 := h.tx.tag
  simp [Come.cells, h1, h2]
def cmc (l : List Come) : List Value := (l.map Come.cells).flatten
theorem cmc_len {l : List Come} (h : ∀ x ∈ l, Come.Wf x) : (cmc l).length = l.length * 75 := flat_lenM l fun x hx => (h x hx).len
theorem cmc_take {l : List Come} (h : ∀ x ∈ l, Come.Wf x) (i : Nat) (hi : i < l.length) : ((cmc l).drop (i * 75)).take 75 = Come.cells (l.getD i Come.zero) := flat_takeM _ l i (fun x hx => (h x hx).len) hi
theorem cmc_at {l : List Come} (h : ∀ x ∈ l, Come.Wf x) {k c : Nat} (hk : k < l.length) (hc : c < 75) : (cmc l)[k * 75 + c]? = (Come.cells (l.getD k Come.zero))[c]? := flat_getM (f := Come.cells) Come.zero (fun x hx => (h x hx).len) hk hc
theorem comeD {l : List Come} (h : ∀ x ∈ l, Come.Wf x) {k : Nat} (hk : k < l.length) : Come.Wf (l.getD k Come.zero) := by
  rw [List.getD_eq_getElem?_getD, List.getElem?_eq_getElem hk]
  exact h _ (List.getElem_mem _)
theorem Come.cells_is (c : Come) : c.cells = .bool c.tick :: (c.tx.cells ++ [.int .u8 c.delay, .int .u8 c.stay]) := by simp [Come.cells, Tx.cells]
theorem Come.tx_cells {c : Come} (h : c.Wf) : (c.cells.drop 1).take 72 = c.tx.cells := by
  have := Tx.cells_len h.tx.hand h.tx.tag
  rw [Come.cells_is, List.drop_succ_cons, List.drop_zero, List.take_left' this]
theorem come_tx {l : List Come} (h : ∀ x ∈ l, Come.Wf x) {k : Nat} (hk : k < l.length) : ((cmc l).drop (k * 75 + 1)).take 72 = Tx.cells (l.getD k Come.zero).tx := by
  have h1 := cmc_take h k hk
  rw [← Come.tx_cells (comeD h hk), ← h1, List.drop_take, List.take_take, List.drop_drop]
  rfl
theorem come_end {c : Come} (h : c.Wf) : c.cells[73]? = some (.int .u8 c.delay) ∧ c.cells[74]? = some (.int .u8 c.stay) := by
  have e := Tx.cells_len h.tx.hand h.tx.tag
  have f : ∀ j, c.cells[73 + j]? = [Value.int .u8 c.delay, .int .u8 c.stay][j]? := by
    intro j
    rw [Come.cells_is, show 73 + j = (72 + j) + 1 by omega, List.getElem?_cons_succ, List.getElem?_append_right (by omega), e, Nat.add_sub_cancel_left]
  exact ⟨f 0, f 1⟩
theorem next_src {size : Int} {L : List Wait} (h : Good ⟨size, L⟩) {nx : List Int} {now : Int} (hn : (next ⟨size, L⟩ nx now).2.2 = true) : right (next ⟨size, L⟩ nx now).2.1 ∧ (next ⟨size, L⟩ nx now).2.1.tx.nonce = nextOf nx (next ⟨size, L⟩ nx now).2.1 := by
  obtain ⟨k, hk⟩ := next_ok hn
  have h1 := pick_lt hk
  rw [next_yes (p := ⟨size, L⟩) hk]
  exact ⟨h.right _ (mem_getD h1.1), h1.2.2⟩
theorem right_src {w : Wait} (h : right w) : 0 ≤ w.tx.src ∧ w.tx.src ≤ 63 ∧ 0 ≤ w.tx.nonce ∧ w.tx.nonce ≤ 1099511627776 := by
  have h1 := src_ok h
  have h2 := (Txs.check_is.1 h.1).2.1.1.1
  unfold within at h2
  omega
end Go.Pool

/- What is played with a pool, step by step, in plain Lean. -/
namespace Go.Pool
open Go.Sx
open Go.Txs (Tx within)
open Go.Note (Z I64)
structure Y (size : Int) (i : Nat) (s : S) : Prop where
  p : s.p = ⟨size, s.p.L⟩
  good : Good ⟨size, s.p.L⟩
  len : s.nx.length = 64
  now : 0 ≤ s.now ∧ s.now ≤ i
  wo : Wfs s.out
  wg : Wfs s.gone
  wl : Wfs s.p.L
  ro : ∀ w ∈ s.out, right w
  put : s.put = ((s.out.length + s.gone.length + s.p.L.length : Nat) : Int)
  few : s.put ≤ i
theorem ids_len (s : S) : (ids s).length = s.out.length + s.gone.length + s.p.L.length := by
  unfold ids
  simp only [List.length_append, List.length_map]
  omega
def pops : Nat → S → S
  | 0, s => s
  | n + 1, s => (pop (pops n s)).1
theorem pop_yes {size : Int} {s : S} (hp : s.p = ⟨size, s.p.L⟩) (h : (next ⟨size, s.p.L⟩ s.nx s.now).2.2 = true) : pop s = (⟨⟨size, (next ⟨size, s.p.L⟩ s.nx s.now).1.L⟩, bump s.nx (next ⟨size, s.p.L⟩ s.nx s.now).2.1, s.now, s.put, s.out ++ [(next ⟨size, s.p.L⟩ s.nx s.now).2.1], s.gone⟩, true) := by
  unfold pop
  have e := next_size ⟨size, s.p.L⟩ s.nx s.now
  rw [hp]
  dsimp only at *
  rw [if_pos h]
  exact congrArg (fun q => ((⟨q, bump s.nx (next ⟨size, s.p.L⟩ s.nx s.now).2.1, s.now, s.put, s.out ++ [(next ⟨size, s.p.L⟩ s.nx s.now).2.1], s.gone⟩ : S), true)) e
theorem pop_not {size : Int} {s : S} (hp : s.p = ⟨size, s.p.L⟩) (h : (next ⟨size, s.p.L⟩ s.nx s.now).2.2 = false) : pop s = (s, false) := by
  unfold pop
  rw [if_neg (by rw [hp, h]; exact Bool.false_ne_true)]
theorem y_pop {size : Int} {i : Nat} {s : S} (h : Y size i s) : Y size i (pop s).1 := by
  cases hn : (next ⟨size, s.p.L⟩ s.nx s.now).2.2 with
  | false => rw [pop_not h.p hn]; exact h
  | true =>
    have hl := ids_pop (s := s) (by rw [h.p]; exact h.good)
    have hl := hl.length_eq
    rw [ids_len, ids_len] at hl
    rw [pop_yes h.p hn] at hl ⊢
    have hns := next_src h.good hn
    have hw := next_wf (size := size) h.wl s.nx s.now
    refine ⟨rfl, h.good.next' _ _, by show (bump s.nx _).length = 64; rw [bump_len]; exact h.len, h.now, h.wo.app (Wfs.one hw.2), h.wg, hw.1, fun w hx => ?_, ?_, h.few⟩
    · rcases List.mem_append.1 hx with hx | hx
      · exact h.ro w hx
      · rw [List.mem_singleton.1 hx]; exact hns.1
    · have := h.put
      dsimp only at hl ⊢
      omega
theorem y_pops {size : Int} {i : Nat} {s : S} (h : Y size i s) : ∀ n, Y size i (pops n s)
  | 0 => h
  | n + 1 => y_pop (y_pops h n)
theorem pop_keeps (s : S) : (pop s).1.now = s.now ∧ (pop s).1.put = s.put ∧ (pop s).1.gone = s.gone := by
  unfold pop
  split <;> exact ⟨rfl, rfl, rfl⟩
theorem pops_keeps (s : S) : ∀ n, (pops n s).now = s.now ∧ (pops n s).put = s.put ∧ (pops n s).gone = s.gone
  | 0 => ⟨rfl, rfl, rfl⟩
  | n + 1 => by
    obtain ⟨h1, h2, h3⟩ := pops_keeps s n
    obtain ⟨g1, g2, g3⟩ := pop_keeps (pops n s)
    exact ⟨g1.trans h1, g2.trans h2, g3.trans h3⟩
theorem drain_pops {s : S} : ∀ {j n : Nat}, (∀ q, q < j → (pop (pops q s)).2 = true) → j ≤ n → drain n s = drain (n - j) (pops j s)
  | 0, n, _, _ => rfl
  | j + 1, n, h, hj => by
    rw [drain_pops (j := j) (fun q hq => h q (by omega)) (by omega), show n - j = (n - (j + 1)) + 1 by omega]
    show (if _ then _ else _) = _
    rw [if_pos (h j (by omega))]
    rfl
theorem drain_all {s : S} {j : Nat} (h : ∀ q, q < j → (pop (pops q s)).2 = true) : drain j s = pops j s := by
  rw [drain_pops h (Nat.le_refl _), Nat.sub_self]
  rfl
theorem drain_stop {s : S} {j n : Nat} (h : ∀ q, q < j → (pop (pops q s)).2 = true) (hj : j ≤ n) (hs : (pop (pops j s)).2 = false) : drain n s = pops j s := by
  rw [drain_pops h hj]
  cases hm : n - j with
  | zero => rfl
  | succ m =>
    show (if _ then _ else _) = _
    rw [if_neg (by rw [hs]; exact Bool.false_ne_true)]
theorem drain_is (s : S) (n : Nat) : ∃ j, drain n s = pops j s := by
  induction n generalizing s with
  | zero => exact ⟨0, rfl⟩
  | succ n ih =>
    unfold drain
    split
    · obtain ⟨j, hj⟩ := ih (pop s).1
      refine ⟨j + 1, hj.trans ?_⟩
      clear hj ih
      induction j with
      | zero => rfl
      | succ j ih => show (pop _).1 = (pop _).1; rw [ih]
    · exact ⟨0, rfl⟩
theorem y_drain {size : Int} {i : Nat} {s : S} (h : Y size i s) (n : Nat) : Y size i (drain n s) := by
  obtain ⟨j, hj⟩ := drain_is s n
  rw [hj]
  exact y_pops h j
theorem drain_keeps (s : S) (n : Nat) : (drain n s).now = s.now ∧ (drain n s).put = s.put ∧ (drain n s).gone = s.gone := by
  obtain ⟨j, hj⟩ := drain_is s n
  rw [hj]
  exact pops_keeps s j
/-- How far pops can go. -/
theorem pops_out {size : Int} {i : Nat} {s : S} (h : Y size i s) : ∀ {j : Nat}, (∀ q, q < j → (pop (pops q s)).2 = true) → (pops j s).out.length = s.out.length + j
  | 0, _ => rfl
  | j + 1, hq => by
    have h1 := pops_out h (j := j) (fun q hj => hq q (by omega))
    have hy := y_pops h j
    have h2 := hq j (by omega)
    show (pop (pops j s)).1.out.length = _
    cases hn : (next ⟨size, (pops j s).p.L⟩ (pops j s).nx (pops j s).now).2.2 with
    | false => rw [pop_not hy.p hn] at h2; cases h2
    | true =>
      rw [pop_yes hy.p hn]
      dsimp only
      rw [List.length_append, List.length_singleton]
      omega
theorem pops_few {size : Int} {i : Nat} {s : S} (h : Y size i s) {j : Nat} (hq : ∀ q, q < j → (pop (pops q s)).2 = true) : j ≤ i := by
  have h1 := pops_out h hq
  have h2 := y_pops h j
  have h3 := h2.put
  have h4 := h2.few
  omega
theorem y_tick {size : Int} {i : Nat} {s : S} (h : Y size i s) : Y size (i + 1) (tick s) := by
  have hl := (ids_tick s).length_eq
  rw [ids_len, ids_len] at hl
  have e : tick s = ⟨⟨size, s.p.L.filter fun w => !isOld (s.now + 1) w⟩, s.nx, s.now + 1, s.put, s.out, s.gone ++ s.p.L.filter (isOld (s.now + 1))⟩ := by
    unfold tick old
    rw [h.p]
  rw [e] at hl ⊢
  have h1 := h.now
  have h2 := h.few
  have h3 := h.put
  refine ⟨rfl, h.good.old' _, h.len, ?_, h.wo, h.wg.app (h.wl.filter _), h.wl.filter _, h.ro, ?_, ?_⟩ <;> dsimp only at hl ⊢ <;> omega
theorem tick_is {size : Int} {s : S} (h : s.p = ⟨size, s.p.L⟩) : tick s = ⟨⟨size, s.p.L.filter fun w => !isOld (s.now + 1) w⟩, s.nx, s.now + 1, s.put, s.out, s.gone ++ s.p.L.filter (isOld (s.now + 1))⟩ := by
  unfold tick old
  rw [h]
theorem wait_wf {c : Come} (hc : c.Wf) {i : Nat} {now : Int} (hi : i ≤ 1000) (hn : 0 ≤ now ∧ now ≤ 1000) : Wait.Wf (waitOf c i now) := by
  have h1 := hc.delay
  have h2 := hc.stay
  refine ⟨hc.tx, ?_, ?_, ?_, ?_⟩ <;> (unfold I64 waitOf; dsimp only; omega)
theorem lay_is {size : Int} {s : S} (h : s.p = ⟨size, s.p.L⟩) (c : Come) (i : Nat) : lay s c i = ⟨⟨size, (put ⟨size, s.p.L⟩ (waitOf c i s.now)).1.L⟩, s.nx, s.now, if (put ⟨size, s.p.L⟩ (waitOf c i s.now)).2.2.2 = 0 then s.put + 1 else s.put, s.out, if (put ⟨size, s.p.L⟩ (waitOf c i s.now)).2.2.1 = true then s.gone ++ [(put ⟨size, s.p.L⟩ (waitOf c i s.now)).2.1] else s.gone⟩ := by
  unfold lay
  rw [h]
  dsimp only
  have e := put_size ⟨size, s.p.L⟩ (waitOf c i s.now)
  dsimp only at e
  rw [← e]
theorem y_lay {size : Int} {i : Nat} {s : S} (h : Y size i s) (hi : i ≤ 1000) {c : Come} (hc : c.Wf) : Y size (i + 1) (lay s c i) := by
  have h1 := h.now
  have h2 := h.few
  have h3 := h.put
  have hl : (lay s c i).put = (((ids (lay s c i)).length : Nat) : Int) ∧ (lay s c i).put ≤ s.put + 1 := by
    rcases ids_lay (s := s) (by rw [h.p]; exact h.good) c i with ⟨a, b⟩ | ⟨a, b⟩
    · have := b.length_eq
      rw [List.length_cons, ids_len s] at this
      omega
    · have := b.length_eq
      rw [ids_len s] at this
      omega
  rw [ids_len] at hl
  have hw := wait_wf hc (i := i) (now := s.now) hi (by omega)
  have hp := put_wf (p := ⟨size, s.p.L⟩) h.wl hw
  rw [lay_is h.p] at hl ⊢
  refine ⟨rfl, h.good.put' _, h.len, ?_, h.wo, ?_, hp.1, h.ro, ?_, ?_⟩
  · dsimp only; omega
  · dsimp only
    split
    · exact h.wg.app (Wfs.one hp.2)
    · exact h.wg
  · exact hl.1
  · have := hl.2
    dsimp only at this ⊢
    omega
theorem y_start {n : Int} (h : 1 ≤ n ∧ n ≤ 256) : Y n 0 (start n) :=
  ⟨rfl, good_new h, rfl, ⟨by show (0 : Int) ≤ 0; omega, by show (0 : Int) ≤ _; omega⟩, wf_nil, wf_nil, wf_nil, fun w hw => absurd hw (by simp [start]), rfl, by show (0 : Int) ≤ _; omega⟩
theorem y_play {n : Int} (h : 1 ≤ n ∧ n ≤ 256) {l : List Come} (hl : ∀ z ∈ l, Come.Wf z) : ∀ i, i ≤ 1000 → i ≤ l.length → Y n i (play n l i)
  | 0, _, _ => y_start h
  | i + 1, hi, hj => by
    have ih := y_play h hl i (by omega) (by omega)
    show Y n (i + 1) (come _ _ _ _)
    unfold come
    split
    · exact y_tick (y_drain ih _)
    · exact y_lay ih (by omega) (comeD hl (by omega))
theorem play_tick {size : Int} {l : List Come} {i : Nat} (h : (l.getD i Come.zero).tick = true) : play size l (i + 1) = tick (drain (l.length + 1) (play size l i)) := if_pos h
theorem play_lay {size : Int} {l : List Come} {i : Nat} (h : (l.getD i Come.zero).tick = false) : play size l (i + 1) = lay (play size l i) (l.getD i Come.zero) i := if_neg (by rw [h]; exact Bool.false_ne_true)
theorem next_no_L {p : Pool} {nx : List Int} {now : Int} (h : (next p nx now).2.2 = false) : (next p nx now).1.L = p.L := by
  unfold next at *
  split
  · rfl
  · rename_i k hk
    rw [hk] at h
    cases h
end Go.Pool

/- What comes of what is played with a pool, in plain Lean. -/
namespace Go.Pool
open Go.Sx
open Go.Txs (Tx within)
open Go.Note (Z I64)
theorem delays {l : List Come} (h : ∀ z ∈ l, Come.Wf z) (i : Nat) : 0 ≤ (l.getD i Come.zero).delay := by
  by_cases hi : i < l.length
  · exact (comeD h hi).delay.1
  · rw [List.getD_eq_getElem?_getD, List.getElem?_eq_none (by omega)]
    exact Int.le_refl _
theorem wc_src {l : List Wait} (h : Wfs l) {k : Nat} (hk : k < l.length) : (wc l)[k * 76]? = some (i64 (l.getD k Wait.zero).tx.src) := by
  have := wc_at h (c := 0) hk (by decide)
  rw [Nat.add_zero] at this
  exact this
/-- All that has one of the three ends. -/
def all (s : S) : List Wait := s.out ++ s.gone ++ s.p.L
theorem Y.all {size : Int} {i : Nat} {s : S} (h : Y size i s) : Wfs (Pool.all s) := (h.wo.app h.wg).app h.wl
theorem next_time {size : Int} {L : List Wait} {nx : List Int} {now : Int} (hn : (next ⟨size, L⟩ nx now).2.2 = true) : (next ⟨size, L⟩ nx now).2.1.time ≤ now ∧ (next ⟨size, L⟩ nx now).2.1.tx.nonce = nx.getD (next ⟨size, L⟩ nx now).2.1.tx.src.toNat 0 ∧ ((next ⟨size, L⟩ nx now).1.L.length : Int) = (L.length : Int) - 1 ∧ ∀ j, j < L.length → (L.getD j Wait.zero).time ≤ now → (L.getD j Wait.zero).tx.nonce = nx.getD (L.getD j Wait.zero).tx.src.toNat 0 → ¬ less (L.getD j Wait.zero) (next ⟨size, L⟩ nx now).2.1 := by
  obtain ⟨k, hk⟩ := next_ok hn
  have h1 := pick_lt hk
  have h2 := pick_min hk
  have h3 := h1.1
  rw [next_yes (p := ⟨size, L⟩) hk]
  refine ⟨h1.2.1, h1.2.2, ?_, fun j hj ht hq => h2 j hj ⟨ht, hq⟩⟩
  show (((L.eraseIdx k).map _).length : Int) = _
  rw [List.length_map, List.length_eraseIdx, if_pos h3]
  dsimp only at h3
  omega
theorem next_zero {size : Int} {L : List Wait} {nx : List Int} {now : Int} (hn : (next ⟨size, L⟩ nx now).2.2 = false) : (next ⟨size, L⟩ nx now).2.1 = Wait.zero := by
  unfold next at *
  split
  · rfl
  · rename_i k hk
    rw [hk] at hn
    cases hn
end Go.Pool

/- Own words: a list of texts among the arguments: its room, and what each text weighs. -/
set_option linter.unusedVariables false
set_option linter.unusedSimpArgs false
namespace Go.Sx
open Go.RowKit Go.WideShapes Go.ChangeAt Go.ChangeShapes
section
variable {H : Type} {enc : TypeId × Value → H} {P : Program} {W : World} {base : Nat} {held : Bool}
theorem weightsAll_mem {e : TypeId} : ∀ {l : List (DataW H)} {d : DataW H} {z : Nat}, d ∈ l → z ∈ d.weights P e → z ∈ DataW.weightsAll P e l
  | [], _, _, h, _ => by cases h
  | x :: l, d, z, h, hz => by
    rw [DataW.weightsAll]
    rcases List.mem_cons.1 h with rfl | h
    · exact List.mem_append_left _ hz
    · exact List.mem_append_right _ (weightsAll_mem h hz)
end
end Go.Sx

/- Own words: a slice among the arguments, row by row, with what each row weighs. -/
set_option linter.unusedVariables false
set_option linter.unusedSimpArgs false
namespace Go.Sx
open Go.RowKit Go.WideShapes Go.ChangeAt Go.ChangeShapes
section
variable {H : Type} {enc : TypeId × Value → H} {P : Program} {W : World} {sp : Nat → Bool} {held : Bool} {t e : TypeId} {cs : List Value}
theorem Trw.sliceC (h : Trw enc P W sp held t cs) (ht : P.underlying t = some (.slice e)) (hz : 0 < P.cellsOf e) : ∃ a m c, cs = [.slice a m c] ∧ m ≤ c ∧ m ≤ 9223372036854775807 ∧ ∃ rows : List (List Value), rows.length = m ∧ Rd W a rows.flatten ∧ ∀ r ∈ rows, r.length = P.cellsOf e ∧ Trw enc P W sp held e r := by
  obtain ⟨fuel, x, hf, hw⟩ := h
  rcases Go.Deep.open_slice ht hf with ⟨h0, _⟩ | ⟨a, len, cap, m, n, D, Pl, h0, _, hl, hm, hmm, hx, hel⟩
  · exact ⟨none, 0, 0, h0, by omega, by omega, [], rfl, .inl rfl, by simp⟩
  · have hle : len ≤ m := by rw [hmm]; split <;> omega
    unfold maxLen at hm
    have hwd : ∀ i, i < len → ∀ z ∈ (D i).weights P e, z ≤ reachBytes := fun i hi z hz => by
      refine hw z ?_
      subst hx
      simp only [DataW.weights, ht]
      exact List.mem_cons_of_mem _ (List.mem_append_left _ (weightsAll_mem (List.mem_map.2 ⟨i, by simpa using hi, rfl⟩) hz))
    have hrow : ∀ i, i < len → ∃ cs', W.cells? 0 (a.add (i * P.cellsOf e)) (P.cellsOf e) = some cs' ∧ Trw enc P W sp held e cs' := fun i hi => by
      obtain ⟨cs', h1, h2⟩ := hel i (by omega)
      exact ⟨cs', h1, n, _, h2, hwd i hi⟩
    let f : Nat → List Value := fun i => (W.cells? 0 (a.add (i * P.cellsOf e)) (P.cellsOf e)).getD []
    have hf' : ∀ i, i < len → W.cells? 0 (a.add (i * P.cellsOf e)) (P.cellsOf e) = some (f i) ∧ Trw enc P W sp held e (f i) := fun i hi => by
      obtain ⟨cs', h1, h2⟩ := hrow i hi
      have : f i = cs' := by show (W.cells? 0 _ _).getD [] = cs'; rw [h1]; rfl
      rw [this]
      exact ⟨h1, h2⟩
    refine ⟨some a, len, cap, h0, hl, by omega, (List.range len).map f, by simp, ?_, ?_⟩
    · by_cases h00 : len = 0
      · subst h00; exact .inl rfl
      · right
        refine ⟨a, rfl, Rd.flat (z := P.cellsOf e) (fun r hr => ?_) hz fun i j v hv => ?_⟩
        · obtain ⟨i, hi, rfl⟩ := List.mem_map.1 hr
          exact (cells_get (hf' i (by simpa using hi)).1).1
        · have h00' := cells_get (hf' 0 (by omega)).1
          have c0 : ∃ u, W.cell? a = some u := by
            have h1 := h00'.2 0 hz
            rw [Nat.zero_mul, add_zero, add_zero] at h1
            exact ⟨_, by rw [h1]; exact List.getElem?_eq_getElem (by omega)⟩
          obtain ⟨u, hu⟩ := c0
          simp only [List.getElem?_map, Option.bind_eq_some_iff, Option.map_eq_some_iff] at hv
          obtain ⟨r, ⟨i', hi', rfl⟩, hv⟩ := hv
          have hi : i < len ∧ i' = i := by
            have := List.getElem?_eq_some_iff.1 hi'
            obtain ⟨h1, h2⟩ := this
            simp at h1 h2
            omega
          obtain ⟨hi, rfl⟩ := hi
          obtain ⟨h1, h2⟩ := cells_get (hf' i' hi).1
          have hj : j < P.cellsOf e := by
            have := (List.getElem?_eq_some_iff.1 hv).1
            omega
          rw [← add_add0 hu, h2 j hj]
          exact hv
    · intro r hr
      obtain ⟨i, hi, rfl⟩ := List.mem_map.1 hr
      have := hf' i (by simpa using hi)
      exact ⟨(cells_get this.1).1, this.2⟩
end
end Go.Sx
