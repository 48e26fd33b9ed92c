/- Part of a proof about given Go functions: contracts of functions, or plain laws. -/
import Derived.Test.YtbdkgmkaakoigaaS6
import Derived.Test.YtbdkgmkaakoigaaS4
import Derived.Test.YtbdkgmkaakoigaaS5
/- The pool's first calls, in plain Lean. -/
namespace Go.Pool
open Go.Sx
open Go.Txs (Tx within)
open Go.Note (Z I64)
theorem wf_nil : Wfs [] := fun x hx => absurd hx (by simp)
theorem put_size (p : Pool) (w : Wait) : (put p w).1 = ⟨p.size, (put p w).1.L⟩ := by
  unfold put
  split
  · rfl
  · split
    · rfl
    · split
      · rfl
      · split <;> rfl
theorem next_size (p : Pool) (nx : List Int) (now : Int) : (next p nx now).1 = ⟨p.size, (next p nx now).1.L⟩ := by
  unfold next
  split <;> rfl
theorem Good.put' {size : Int} {L : List Wait} (h : Good ⟨size, L⟩) (w : Wait) : Good ⟨size, (put ⟨size, L⟩ w).1.L⟩ := by
  have := good_put h w
  rwa [put_size] at this
theorem Good.next' {size : Int} {L : List Wait} (h : Good ⟨size, L⟩) (nx : List Int) (now : Int) : Good ⟨size, (next ⟨size, L⟩ nx now).1.L⟩ := by
  have := good_next h nx now
  rwa [next_size] at this
theorem Good.old' {size : Int} {L : List Wait} (h : Good ⟨size, L⟩) (now : Int) : Good ⟨size, L.filter fun w => !isOld now w⟩ := good_old h now
theorem Good.few {size : Int} {L : List Wait} (h : Good ⟨size, L⟩) : L.length ≤ 256 := by
  have h1 := h.fits
  have h2 := h.size
  dsimp only at h1 h2
  omega
theorem next_wf {size : Int} {L : List Wait} (h : Wfs L) (nx : List Int) (now : Int) : Wfs (next ⟨size, L⟩ nx now).1.L ∧ (next ⟨size, L⟩ nx now).2.1.Wf := by
  unfold next
  split
  · exact ⟨h, Wait.wf_zero⟩
  · rename_i k hk
    have hk := (pick_lt hk).1
    exact ⟨(h.erase k).raise (h.at_ hk), h.at_ hk⟩
def awA : Wait := ⟨⟨0, 1, 0, 0, [], false, 0, 0, Z, Z⟩, 0, 9, 2, 0⟩
def awC : Wait := ⟨⟨0, 1, 0, 0, [], false, 0, 0, Z, Z⟩, 0, 9, 5, 1⟩
def awB : Wait := ⟨⟨0, 0, 0, 0, [], false, 0, 0, Z, Z⟩, 1, 9, 5, 1⟩
theorem awTx_wf (n : Int) (h : I64 n) : Tx.Wf ⟨0, n, 0, 0, [], false, 0, 0, Z, Z⟩ := { Txs.Tx.wf_zero with nonce := h }
theorem awA_wf : awA.Wf := ⟨awTx_wf 1 ⟨by decide, by decide⟩, ⟨by decide, by decide⟩, ⟨by decide, by decide⟩, ⟨by decide, by decide⟩, ⟨by decide, by decide⟩⟩
theorem awB_wf : awB.Wf := ⟨awTx_wf 0 ⟨by decide, by decide⟩, ⟨by decide, by decide⟩, ⟨by decide, by decide⟩, ⟨by decide, by decide⟩, ⟨by decide, by decide⟩⟩
theorem awC_wf : awC.Wf := ⟨awTx_wf 1 ⟨by decide, by decide⟩, ⟨by decide, by decide⟩, ⟨by decide, by decide⟩, ⟨by decide, by decide⟩, ⟨by decide, by decide⟩⟩
theorem aw_put1 : put ⟨2, []⟩ awA = (⟨2, [awA]⟩, Wait.zero, false, 0) := rfl
theorem aw_put2 : put ⟨2, [awA]⟩ awB = (⟨2, [awA, awB]⟩, Wait.zero, false, 0) := rfl
theorem aw_next1 : next ⟨2, [awA, awB]⟩ (List.replicate 64 0) 4 = (⟨2, [awA, awB]⟩, Wait.zero, false) := rfl
theorem aw_next2 : next ⟨2, [awA, awB]⟩ (List.replicate 64 0) 5 = (⟨2, [awC]⟩, awB, true) := rfl
theorem aw_next3 : next ⟨2, [awC]⟩ (List.replicate 64 1) 5 = (⟨2, []⟩, awC, true) := rfl
theorem aw_g0 : Good ⟨2, []⟩ := good_new (by decide)
theorem aw_g1 : Good ⟨2, [awA]⟩ := aw_g0.put' awA
theorem aw_g2 : Good ⟨2, [awA, awB]⟩ := aw_g1.put' awB
theorem aw_g3 : Good ⟨2, [awC]⟩ := aw_g2.next' (List.replicate 64 0) 5
theorem aw_w1 : Wfs [awA] := fun x hx => by rw [List.mem_singleton.1 hx]; exact awA_wf
theorem aw_w2 : Wfs [awA, awB] := fun x hx => by
  rcases List.mem_cons.1 hx with rfl | hx
  · exact awA_wf
  · rw [List.mem_singleton.1 hx]; exact awB_wf
theorem aw_w3 : Wfs [awC] := fun x hx => by rw [List.mem_singleton.1 hx]; exact awC_wf
theorem rep_at (n : Int) {q : Int} (h : 0 ≤ q ∧ q ≤ 63) : (List.replicate 64 n).getD q.toNat 0 = n := by
  rw [List.getD_eq_getElem?_getD, List.getElem?_replicate, if_pos (by omega)]
  rfl
end Go.Pool

/- The reference's pool, step by step, in plain Lean. -/
namespace Go.Pool
open Go.Sx
open Go.Txs (Tx within)
open Go.Note (Z I64)
/-- All but one, so far. -/
def wo (L : List Wait) (n : Int) : List Wait := L.filter fun x => decide (x.index ≠ n)
theorem wo_yes {L : List Wait} {n : Int} {k : Nat} (hk : k < L.length) (h : (L.getD k Wait.zero).index ≠ n) : wo (L.take (k + 1)) n = wo (L.take k) n ++ [L.getD k Wait.zero] := by
  unfold wo
  rw [Oct.take_succ Wait.zero hk, List.filter_append, List.filter_cons, if_pos (decide_eq_true h)]
  rfl
theorem wo_no {L : List Wait} {n : Int} {k : Nat} (hk : k < L.length) (h : (L.getD k Wait.zero).index = n) : wo (L.take (k + 1)) n = wo (L.take k) n := by
  unfold wo
  rw [Oct.take_succ Wait.zero hk, List.filter_append, List.filter_cons, if_neg (by simpa using h)]
  simp
theorem wo_erase {L : List Wait} {k : Nat} (hs : L.Pairwise fun a b => a.index < b.index) (hk : k < L.length) : wo L (L.getD k Wait.zero).index = L.eraseIdx k := filter_erase hs hk
theorem Wfs.wo {L : List Wait} (h : Wfs L) (n : Int) : Wfs (wo L n) := h.filter _
theorem wo_len (L : List Wait) (n : Int) : (wo L n).length ≤ L.length := List.length_filter_le _ _
/-- The poorest among the first so many. -/
theorem poorest_1 (L : List Wait) : poorest L 1 = 0 := by
  show (if _ then _ else _) = _
  split <;> rfl
theorem poor_yes {L : List Wait} {k : Nat} (h : (L.getD k Wait.zero).tx.fee ≤ (L.getD (poorest L k) Wait.zero).tx.fee) : poorest L (k + 1) = k := if_pos h
theorem poor_no {L : List Wait} {k : Nat} (h : ¬ (L.getD k Wait.zero).tx.fee ≤ (L.getD (poorest L k) Wait.zero).tx.fee) : poorest L (k + 1) = poorest L k := if_neg h
/-- What is laid behind what belongs ahead, so far. -/
def insTo (L : List Wait) (w : Wait) (k : Nat) : List Wait := if pos L w < k then L.take (pos L w) ++ w :: (L.take k).drop (pos L w) else L.take k
theorem insTo_0 (L : List Wait) (w : Wait) : insTo L w 0 = [] := by simp [insTo]
theorem insTo_put {L : List Wait} {w : Wait} {k : Nat} (hk : k < L.length) (hd : ¬ pos L w < k) (h : w.index < (L.getD k Wait.zero).index) : pos L w < k + 1 ∧ insTo L w (k + 1) = insTo L w k ++ [w] ++ [L.getD k Wait.zero] := by
  have h1 : ¬ k < pos L w := fun z => pos_below z h
  have e : pos L w = k := by omega
  refine ⟨by omega, ?_⟩
  unfold insTo
  rw [if_neg hd, if_pos (by omega), e, Oct.take_succ Wait.zero hk, List.drop_left' (by rw [List.length_take]; omega)]
  simp
theorem insTo_not {L : List Wait} {w : Wait} {k : Nat} (hk : k < L.length) (hd : ¬ pos L w < k) (h : ¬ w.index < (L.getD k Wait.zero).index) : ¬ pos L w < k + 1 ∧ insTo L w (k + 1) = insTo L w k ++ [L.getD k Wait.zero] := by
  have h1 : pos L w ≠ k := fun z => h (by have := pos_at (L := L) (w := w) (by omega); rw [z] at this; exact this)
  refine ⟨by omega, ?_⟩
  unfold insTo
  rw [if_neg hd, if_neg (by omega), Oct.take_succ Wait.zero hk]
theorem insTo_more {L : List Wait} {w : Wait} {k : Nat} (hk : k < L.length) (hd : pos L w < k) : pos L w < k + 1 ∧ insTo L w (k + 1) = insTo L w k ++ [L.getD k Wait.zero] := by
  refine ⟨by omega, ?_⟩
  unfold insTo
  rw [if_pos hd, if_pos (by omega), Oct.take_succ Wait.zero hk, List.drop_append_of_le_length (by rw [List.length_take]; omega)]
  simp
theorem insTo_done {L : List Wait} {w : Wait} {k : Nat} (hk : L.length ≤ k) (hd : pos L w < k) (h : ¬ pos L w = L.length) : insTo L w k = ins L w := by
  unfold insTo ins
  rw [if_pos hd, List.take_of_length_le hk]
theorem insTo_end {L : List Wait} {w : Wait} {k : Nat} (hk : k = L.length) (hd : ¬ pos L w < k) : insTo L w k ++ [w] = ins L w := by
  have := pos_le L w
  have e : pos L w = L.length := by omega
  unfold insTo ins
  rw [if_neg hd, e, hk, List.drop_length]
theorem insTo_in {L : List Wait} {w : Wait} {k : Nat} (hk : k = L.length) (hd : pos L w < k) : insTo L w k = ins L w := insTo_done (by omega) hd (by omega)
theorem insTo_len (L : List Wait) (w : Wait) (k : Nat) (hk : k ≤ L.length) : (insTo L w k).length ≤ k + 1 := by
  unfold insTo
  split
  · simp only [List.length_append, List.length_take, List.length_cons, List.length_drop]
    omega
  · rw [List.length_take]
    omega
theorem Wfs.insTo {L : List Wait} (h : Wfs L) {w : Wait} (hw : w.Wf) (k : Nat) : Wfs (insTo L w k) := fun x hx => by
  unfold Pool.insTo at hx
  split at hx
  · rcases List.mem_append.1 hx with hx | hx
    · exact h.take _ x hx
    · rcases List.mem_cons.1 hx with rfl | hx
      · exact hw
      · exact (h.take k).drop _ x hx
  · exact h.take _ x hx
theorem Wfs.one {x : Wait} (h : x.Wf) : Wfs [x] := fun y hy => by rw [List.mem_singleton.1 hy]; exact h
/-- What is ready and first among the first so many, and whether there is one. -/
def bestOf (L : List Wait) (nx : List Int) (now : Int) (k : Nat) : Wait := match pick L nx now k with | none => Wait.zero | some j => L.getD j Wait.zero
def found (L : List Wait) (nx : List Int) (now : Int) (k : Nat) : Bool := (pick L nx now k).isSome
theorem best_wf {L : List Wait} (h : Wfs L) {nx : List Int} {now : Int} {k : Nat} (hk : k ≤ L.length) : Wait.Wf (bestOf L nx now k) := by
  unfold bestOf
  split
  · exact Wait.wf_zero
  · rename_i j hj
    exact h.at_ (by have := (pick_lt hj).1; omega)
theorem best_yes {L : List Wait} {nx : List Int} {now : Int} {k : Nat} (hr : (L.getD k Wait.zero).time ≤ now ∧ (L.getD k Wait.zero).tx.nonce = nx.getD (L.getD k Wait.zero).tx.src.toNat 0) (h : found L nx now k = false ∨ less (L.getD k Wait.zero) (bestOf L nx now k)) : bestOf L nx now (k + 1) = L.getD k Wait.zero ∧ found L nx now (k + 1) = true := by
  have hr : ready nx now (L.getD k Wait.zero) := hr
  unfold bestOf found at *
  cases e : pick L nx now k with
  | none =>
    rw [pick, e]
    simp only [if_pos hr]
    exact ⟨trivial, rfl⟩
  | some j =>
    rw [e] at h
    have h : less (L.getD k Wait.zero) (L.getD j Wait.zero) := by
      rcases h with h | h
      · cases h
      · exact h
    rw [pick, e]
    simp only [if_pos (And.intro hr h)]
    exact ⟨trivial, rfl⟩
theorem best_no {L : List Wait} {nx : List Int} {now : Int} {k : Nat} (h : ¬ (((L.getD k Wait.zero).time ≤ now ∧ (L.getD k Wait.zero).tx.nonce = nx.getD (L.getD k Wait.zero).tx.src.toNat 0) ∧ (found L nx now k = false ∨ less (L.getD k Wait.zero) (bestOf L nx now k)))) : bestOf L nx now (k + 1) = bestOf L nx now k ∧ found L nx now (k + 1) = found L nx now k := by
  unfold bestOf found at *
  cases e : pick L nx now k with
  | none =>
    rw [e] at h
    have hr : ¬ ready nx now (L.getD k Wait.zero) := fun z => h ⟨z, .inl rfl⟩
    rw [pick, e]
    simp only [if_neg hr]
    exact ⟨trivial, trivial⟩
  | some j =>
    rw [e] at h
    have hr : ¬ (ready nx now (L.getD k Wait.zero) ∧ less (L.getD k Wait.zero) (L.getD j Wait.zero)) := fun z => h ⟨z.1, .inr z.2⟩
    rw [pick, e]
    simp only [if_neg hr]
    exact ⟨trivial, trivial⟩
theorem found_no {L : List Wait} {nx : List Int} {now : Int} {k : Nat} (h : found L nx now k = false) : pick L nx now k = none := by
  unfold found at h
  cases e : pick L nx now k with
  | none => rfl
  | some j => rw [e] at h; cases h
theorem found_yes {L : List Wait} {nx : List Int} {now : Int} {k : Nat} (h : found L nx now k = true) : ∃ j, pick L nx now k = some j ∧ bestOf L nx now k = L.getD j Wait.zero ∧ j < k := by
  unfold found bestOf at *
  cases e : pick L nx now k with
  | none => rw [e] at h; cases h
  | some j => exact ⟨j, rfl, rfl, (pick_lt e).1⟩
/-- What is left over, raised, so far. -/
def rw' (o : Wait) (L : List Wait) : List Wait := wo (L.map (raise o)) o.index
theorem rw_yes {o : Wait} {L : List Wait} {k : Nat} (hk : k < L.length) (h : (L.getD k Wait.zero).index ≠ o.index) : rw' o (L.take (k + 1)) = rw' o (L.take k) ++ [raise o (L.getD k Wait.zero)] := by
  unfold rw' wo
  rw [Oct.take_succ Wait.zero hk, List.map_append, List.filter_append, List.map_cons, List.map_nil, List.filter_cons, if_pos (decide_eq_true (by rw [(raise_keeps _ _).2.1]; exact h))]
  rfl
theorem rw_no {o : Wait} {L : List Wait} {k : Nat} (hk : k < L.length) (h : (L.getD k Wait.zero).index = o.index) : rw' o (L.take (k + 1)) = rw' o (L.take k) := by
  unfold rw' wo
  rw [Oct.take_succ Wait.zero hk, List.map_append, List.filter_append, List.map_cons, List.map_nil, List.filter_cons, if_neg (by rw [(raise_keeps _ _).2.1]; simpa using h)]
  simp
theorem rw_all {L : List Wait} {j : Nat} (hs : L.Pairwise fun a b => a.index < b.index) (hj : j < L.length) : rw' (L.getD j Wait.zero) L = (L.eraseIdx j).map (raise (L.getD j Wait.zero)) := by
  rw [← wo_erase hs hj]
  unfold rw' wo
  rw [List.filter_map]
  congr 1
  refine List.filter_congr fun x _ => ?_
  show decide ((raise _ x).index ≠ _) = _
  rw [(raise_keeps _ x).2.1]
theorem rw_len (o : Wait) (L : List Wait) : (rw' o L).length ≤ L.length := by
  unfold rw'
  exact Nat.le_trans (wo_len _ _) (by rw [List.length_map]; exact Nat.le_refl _)
theorem Wfs.rw {L : List Wait} (h : Wfs L) {o : Wait} (ho : o.Wf) : Wfs (rw' o L) := (h.raise ho).wo _
theorem raise_yes {o w : Wait} (h : follows o w) : raise o w = { w with time := o.time, place := o.place } := if_pos h
theorem raise_no {o w : Wait} (h : ¬ follows o w) : raise o w = w := if_neg h
theorem raise_wf {o w : Wait} (ho : o.Wf) (hw : w.Wf) : (raise o w).Wf := by
  unfold raise
  split
  · exact { hw with time := ho.time, place := ho.place }
  · exact hw
end Go.Pool

/- Own words: an effect in a drawn region, said shortly. -/
set_option linter.unusedVariables false
namespace Go.Sx
open Go.RowKit
variable {P : Program} {S : List Nat} {w0 w : World} {l ls : List It} {a : Act} {rl : List Oper} {Q : Exit → Act → World → Prop} {fuel : Nat} {listed : Array Bool}
theorem hfinA (H : Sep S w0 w l) (h : wpAnyH P .any rl.toArray (NoPanic Q) (fun w => Sep S w0 w ls) fuel listed a w) (hs : ls.Sublist l := by repeat (first | exact S1 | exact S0 | apply S2 | apply S3)) : wpList P rl.toArray (HQ P rl Q (fun w => Sep S w0 w ls) fuel listed) [] a w := hfin (H.sub hs) h
end Go.Sx

/- Own words: items chosen out of what is given, in any order. -/
set_option linter.unusedVariables false
set_option linter.unusedSimpArgs false
namespace Go.Sx
open Go.RowKit
variable {P : Program} {n : Nat} {S : List Nat} {w0 w : World} {ss : List (Nat × Value)} {l : List It} {a : Act}
theorem Sep.these {is lr : List It} (H : Sep S w0 w l) (hp : Picks l is lr) : Sep S w0 w is := (H.perm hp.perm.symm).sub (List.sublist_append_left _ _)
theorem St.only {is lr : List It} (H : St n S w0 ss l a w) (hp : Picks l is lr) : St n S w0 ss is a w := ⟨H.fr, H.sep.these hp⟩
theorem rd_it {b : Nat} {E : TypeId} {cs : List Value} (h : (It.blk b E cs).P w) : Rd w (some ⟨b, 0, none⟩) cs := by
  have := Rd.blk (w := w) (b := b) (E := E) (c := cs.toArray) (fz := (0, 0)) h 0 cs.length
  simpa using this
end Go.Sx

/- What is done to a pool, and what comes in over time, as cells. -/
namespace Go.Pool
open Go.Sx
open Go.Txs (Tx within)
open Go.Note (Z I64)
open Go.Inbox (flat_lenM flat_takeM flat_getM flat_pre memD)
structure Act where
  kind : Int
  n : Int
  w : Wait
def Act.zero : Act := ⟨0, 0, Wait.zero⟩
def Act.cells (a : Act) : List Value := i64 a.kind :: i64 a.n :: i64 a.w.tx.src :: i64 a.w.tx.nonce :: i64 a.w.tx.fee :: i64 a.w.tx.dst :: str a.w.tx.data :: .bool a.w.tx.lane :: i64 a.w.tx.round :: i64 a.w.tx.turn :: (a.w.tx.hand.map u8 ++ (a.w.tx.tag.map u8 ++ (i64 a.w.index :: i64 a.w.till :: i64 a.w.time :: [i64 a.w.place])))
theorem Act.cells_is (a : Act) : a.cells = i64 a.kind :: i64 a.n :: a.w.cells := rfl
structure Act.Wf (a : Act) : Prop where
  kind : I64 a.kind
  n : I64 a.n
  w : Wait.Wf a.w
theorem Act.Wf.len {a : Act} (h : a.Wf) : a.cells.length = 78 := by
  rw [Act.cells_is, List.length_cons, List.length_cons, h.w.len]
def acs (l : List Act) : List Value := (l.map Act.cells).flatten
theorem acs_len {l : List Act} (h : ∀ x ∈ l, Act.Wf x) : (acs l).length = l.length * 78 := flat_lenM l fun x hx => (h x hx).len
theorem acs_take {l : List Act} (h : ∀ x ∈ l, Act.Wf x) (i : Nat) (hi : i < l.length) : ((acs l).drop (i * 78)).take 78 = Act.cells (l.getD i Act.zero) := flat_takeM _ l i (fun x hx => (h x hx).len) hi
theorem actD {l : List Act} (h : ∀ x ∈ l, Act.Wf x) {k : Nat} (hk : k < l.length) : Act.Wf (l.getD k Act.zero) := by
  rw [List.getD_eq_getElem?_getD, List.getElem?_eq_getElem hk]
  exact h _ (List.getElem_mem _)
def Come.cells (c : Come) : List Value := .bool c.tick :: i64 c.tx.src :: i64 c.tx.nonce :: i64 c.tx.fee :: i64 c.tx.dst :: str c.tx.data :: .bool c.tx.lane :: i64 c.tx.round :: i64 c.tx.turn :: (c.tx.hand.map u8 ++ (c.tx.tag.map u8 ++ (.int .u8 c.delay :: [.int .u8 c.stay])))
structure Come.Wf (c : Come) : Prop where
  tx : Tx.Wf c.tx
  delay : 0 ≤ c.delay ∧ c.delay ≤ 255
  stay : 0 ≤ c.stay ∧ c.stay ≤ 255
theorem Come.Wf.len {c : Come} (h : c.Wf) : c.cells.length = 75 := by
  have h1 := h.tx.hand
  have h2 := h.tx.tag
  simp [Come.cells, h1, h2]
theorem Come.cells_is (c : Come) : c.cells = .bool c.tick :: (c.tx.cells ++ [.int .u8 c.delay, .int .u8 c.stay]) := by simp [Come.cells, Tx.cells]
/-- The nonces that are given, over none. -/
def nx0 (ns : List Int) (k : Nat) : List Int := ns.take k ++ List.replicate (64 - k) 0
theorem nx0_0 (ns : List Int) : nx0 ns 0 = List.replicate 64 0 := by simp [nx0]
theorem nx0_len {ns : List Int} {k : Nat} (h : k ≤ ns.length) (h1 : k ≤ 64) : (nx0 ns k).length = 64 := by
  unfold nx0
  rw [List.length_append, List.length_take, List.length_replicate]
  omega
theorem nx0_next {ns : List Int} {k : Nat} (h : k < ns.length) (h1 : k < 64) : (nx0 ns k).set k (ns.getD k 0) = nx0 ns (k + 1) := by
  unfold nx0
  rw [List.set_append_right _ _ (by rw [List.length_take]; omega), List.length_take, Nat.min_eq_left (by omega), Nat.sub_self, Oct.take_succ 0 h, List.append_assoc, show 64 - k = (64 - (k + 1)) + 1 by omega, List.replicate_succ]
  rfl
theorem next_src {size : Int} {L : List Wait} (h : Good ⟨size, L⟩) {nx : List Int} {now : Int} (hn : (next ⟨size, L⟩ nx now).2.2 = true) : right (next ⟨size, L⟩ nx now).2.1 ∧ (next ⟨size, L⟩ nx now).2.1.tx.nonce = nextOf nx (next ⟨size, L⟩ nx now).2.1 := by
  obtain ⟨k, hk⟩ := next_ok hn
  have h1 := pick_lt hk
  rw [next_yes (p := ⟨size, L⟩) hk]
  exact ⟨h.right _ (mem_getD h1.1), h1.2.2⟩
theorem right_src {w : Wait} (h : right w) : 0 ≤ w.tx.src ∧ w.tx.src ≤ 63 ∧ 0 ≤ w.tx.nonce ∧ w.tx.nonce ≤ 1099511627776 := by
  have h1 := src_ok h
  have h2 := (Txs.check_is.1 h.1).2.1.1.1
  unfold within at h2
  omega
end Go.Pool

/- Own words: a list of texts among the arguments: its room, and what each text weighs. -/
set_option linter.unusedVariables false
set_option linter.unusedSimpArgs false
namespace Go.Sx
open Go.RowKit Go.WideShapes Go.ChangeAt Go.ChangeShapes
section
variable {H : Type} {enc : TypeId × Value → H} {P : Program} {W : World} {base : Nat} {held : Bool}
theorem weightsAll_mem {e : TypeId} : ∀ {l : List (DataW H)} {d : DataW H} {z : Nat}, d ∈ l → z ∈ d.weights P e → z ∈ DataW.weightsAll P e l
  | [], _, _, h, _ => by cases h
  | x :: l, d, z, h, hz => by
    rw [DataW.weightsAll]
    rcases List.mem_cons.1 h with rfl | h
    · exact List.mem_append_left _ hz
    · exact List.mem_append_right _ (weightsAll_mem h hz)
end
end Go.Sx

/- Own words: a slice among the arguments, row by row, with what each row weighs. -/
set_option linter.unusedVariables false
set_option linter.unusedSimpArgs false
namespace Go.Sx
open Go.RowKit Go.WideShapes Go.ChangeAt Go.ChangeShapes
section
variable {H : Type} {enc : TypeId × Value → H} {P : Program} {W : World} {sp : Nat → Bool} {held : Bool} {t e : TypeId} {cs : List Value}
theorem Trw.sliceC (h : Trw enc P W sp held t cs) (ht : P.underlying t = some (.slice e)) (hz : 0 < P.cellsOf e) : ∃ a m c, cs = [.slice a m c] ∧ m ≤ c ∧ m ≤ 9223372036854775807 ∧ ∃ rows : List (List Value), rows.length = m ∧ Rd W a rows.flatten ∧ ∀ r ∈ rows, r.length = P.cellsOf e ∧ Trw enc P W sp held e r := by
  obtain ⟨fuel, x, hf, hw⟩ := h
  rcases Go.Deep.open_slice ht hf with ⟨h0, _⟩ | ⟨a, len, cap, m, n, D, Pl, h0, _, hl, hm, hmm, hx, hel⟩
  · exact ⟨none, 0, 0, h0, by omega, by omega, [], rfl, .inl rfl, by simp⟩
  · have hle : len ≤ m := by rw [hmm]; split <;> omega
    unfold maxLen at hm
    have hwd : ∀ i, i < len → ∀ z ∈ (D i).weights P e, z ≤ reachBytes := fun i hi z hz => by
      refine hw z ?_
      subst hx
      simp only [DataW.weights, ht]
      exact List.mem_cons_of_mem _ (List.mem_append_left _ (weightsAll_mem (List.mem_map.2 ⟨i, by simpa using hi, rfl⟩) hz))
    have hrow : ∀ i, i < len → ∃ cs', W.cells? 0 (a.add (i * P.cellsOf e)) (P.cellsOf e) = some cs' ∧ Trw enc P W sp held e cs' := fun i hi => by
      obtain ⟨cs', h1, h2⟩ := hel i (by omega)
      exact ⟨cs', h1, n, _, h2, hwd i hi⟩
    let f : Nat → List Value := fun i => (W.cells? 0 (a.add (i * P.cellsOf e)) (P.cellsOf e)).getD []
    have hf' : ∀ i, i < len → W.cells? 0 (a.add (i * P.cellsOf e)) (P.cellsOf e) = some (f i) ∧ Trw enc P W sp held e (f i) := fun i hi => by
      obtain ⟨cs', h1, h2⟩ := hrow i hi
      have : f i = cs' := by show (W.cells? 0 _ _).getD [] = cs'; rw [h1]; rfl
      rw [this]
      exact ⟨h1, h2⟩
    refine ⟨some a, len, cap, h0, hl, by omega, (List.range len).map f, by simp, ?_, ?_⟩
    · by_cases h00 : len = 0
      · subst h00; exact .inl rfl
      · right
        refine ⟨a, rfl, Rd.flat (z := P.cellsOf e) (fun r hr => ?_) hz fun i j v hv => ?_⟩
        · obtain ⟨i, hi, rfl⟩ := List.mem_map.1 hr
          exact (cells_get (hf' i (by simpa using hi)).1).1
        · have h00' := cells_get (hf' 0 (by omega)).1
          have c0 : ∃ u, W.cell? a = some u := by
            have h1 := h00'.2 0 hz
            rw [Nat.zero_mul, add_zero, add_zero] at h1
            exact ⟨_, by rw [h1]; exact List.getElem?_eq_getElem (by omega)⟩
          obtain ⟨u, hu⟩ := c0
          simp only [List.getElem?_map, Option.bind_eq_some_iff, Option.map_eq_some_iff] at hv
          obtain ⟨r, ⟨i', hi', rfl⟩, hv⟩ := hv
          have hi : i < len ∧ i' = i := by
            have := List.getElem?_eq_some_iff.1 hi'
            obtain ⟨h1, h2⟩ := this
            simp at h1 h2
            omega
          obtain ⟨hi, rfl⟩ := hi
          obtain ⟨h1, h2⟩ := cells_get (hf' i' hi).1
          have hj : j < P.cellsOf e := by
            have := (List.getElem?_eq_some_iff.1 hv).1
            omega
          rw [← add_add0 hu, h2 j hj]
          exact hv
    · intro r hr
      obtain ⟨i, hi, rfl⟩ := List.mem_map.1 hr
      have := hf' i (by simpa using hi)
      exact ⟨(cells_get this.1).1, this.2⟩
end
end Go.Sx
