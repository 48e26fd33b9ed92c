/- Part of a proof about given Go functions: contracts of functions, or plain laws. -/
import Derived.Test.YtaeahloenahelaaDoorS4
import Derived.Test.YtaeahloenahelaaDoorS1
import Derived.Test.YtaeahloenahelaaDoorS2
import Derived.Test.YtaeahloenahelaaDoorS7
import Derived.Test.YtaeahloenahelaaDoorS3
import Derived.Test.YtaeahloenahelaaDoorS6
import Derived.Test.YtaeahloenahelaaDoorS5
/- Own words: items chosen out of what is given, in any order. -/
set_option linter.unusedVariables false
set_option linter.unusedSimpArgs false
namespace Go.Sx
open Go.RowKit
variable {P : Program} {n : Nat} {S : List Nat} {w0 w : World} {ss : List (Nat × Value)} {l : List It} {a : Act}
theorem Sep.these {is lr : List It} (H : Sep S w0 w l) (hp : Picks l is lr) : Sep S w0 w is := (H.perm hp.perm.symm).sub (List.sublist_append_left _ _)
theorem St.only {is lr : List It} (H : St n S w0 ss l a w) (hp : Picks l is lr) : St n S w0 ss is a w := ⟨H.fr, H.sep.these hp⟩
theorem St.front {is lr : List It} (H : St n S w0 ss l a w) (hp : Picks l is lr) : St n S w0 ss (is ++ lr) a w := ⟨H.fr, H.sep.perm hp.perm.symm⟩
theorem Sep.ne_of {b b' : Nat} {E E' : TypeId} {cs cs' : List Value} (h : Sep S w0 w l) (hm : It.blk b E cs ∈ l) (hm' : It.blk b' E' cs' ∈ l) (hE : E ≠ E' := by decide) : b ≠ b' := by
  intro e
  subst e
  have h1 : w.heap[b]? = some (.cells cs.toArray E (0, 0)) := h.all _ hm
  have h2 : w.heap[b]? = some (.cells cs'.toArray E' (0, 0)) := h.all _ hm'
  rw [h1] at h2
  injection h2 with h2
  injection h2 with _ h3 _
  exact hE h3
end Go.Sx

/- Books of bids, as cells. -/
namespace Go.Auction
open Go.Sx
open Go.Note (Z I64 Bid)
open Go.Inbox (flat_lenM flat_takeM flat_getM flat_pre memD)
abbrev NV : Value := .slice none 0 0
abbrev Wfb (l : List Bid) : Prop := ∀ x ∈ l, Bid.Wf x
/-- What a bid is answered, by the bids of its round. -/
def bidE (floor : Int) (xs : List Bid) (x : Bid) (now : Int) : Int :=
  if Note.checkBid x ≠ 0 then Note.checkBid x else if x.round ≤ now then 26 else if x.amount < floor then 24 else if ¬ fresh xs x then 23 else if 32 ≤ xs.length then 25 else 0
def bidL (floor : Int) (xs : List Bid) (x : Bid) (now : Int) : List Bid := if bidE floor xs x now = 0 then xs ++ [x] else xs
theorem e_chk {floor : Int} {xs : List Bid} {x : Bid} {now : Int} (h : Note.checkBid x ≠ 0) : bidE floor xs x now = Note.checkBid x ∧ bidL floor xs x now = xs := by
  have e : bidE floor xs x now = Note.checkBid x := if_pos h
  exact ⟨e, by unfold bidL; rw [e, if_neg h]⟩
theorem e_late {floor : Int} {xs : List Bid} {x : Bid} {now : Int} (h : ¬ Note.checkBid x ≠ 0) (h1 : x.round ≤ now) : bidE floor xs x now = 26 ∧ bidL floor xs x now = xs := by
  have e : bidE floor xs x now = 26 := by unfold bidE; rw [if_neg h, if_pos h1]
  exact ⟨e, by unfold bidL; rw [e, if_neg (by decide)]⟩
theorem e_fee {floor : Int} {xs : List Bid} {x : Bid} {now : Int} (h : ¬ Note.checkBid x ≠ 0) (h1 : ¬ x.round ≤ now) (h2 : x.amount < floor) : bidE floor xs x now = 24 ∧ bidL floor xs x now = xs := by
  have e : bidE floor xs x now = 24 := by unfold bidE; rw [if_neg h, if_neg h1, if_pos h2]
  exact ⟨e, by unfold bidL; rw [e, if_neg (by decide)]⟩
theorem e_twice {floor : Int} {xs : List Bid} {x : Bid} {now : Int} (h : ¬ Note.checkBid x ≠ 0) (h1 : ¬ x.round ≤ now) (h2 : ¬ x.amount < floor) (h3 : ¬ fresh xs x) : bidE floor xs x now = 23 ∧ bidL floor xs x now = xs := by
  have e : bidE floor xs x now = 23 := by unfold bidE; rw [if_neg h, if_neg h1, if_neg h2, if_pos h3]
  exact ⟨e, by unfold bidL; rw [e, if_neg (by decide)]⟩
theorem e_full {floor : Int} {xs : List Bid} {x : Bid} {now : Int} (h : ¬ Note.checkBid x ≠ 0) (h1 : ¬ x.round ≤ now) (h2 : ¬ x.amount < floor) (h3 : fresh xs x) (h4 : 32 ≤ xs.length) : bidE floor xs x now = 25 ∧ bidL floor xs x now = xs := by
  have e : bidE floor xs x now = 25 := by unfold bidE; rw [if_neg h, if_neg h1, if_neg h2, if_neg (fun z => z h3), if_pos h4]
  exact ⟨e, by unfold bidL; rw [e, if_neg (by decide)]⟩
theorem e_ok {floor : Int} {xs : List Bid} {x : Bid} {now : Int} (h : ¬ Note.checkBid x ≠ 0) (h1 : ¬ x.round ≤ now) (h2 : ¬ x.amount < floor) (h3 : fresh xs x) (h4 : ¬ 32 ≤ xs.length) : bidE floor xs x now = 0 ∧ bidL floor xs x now = xs ++ [x] := by
  have e : bidE floor xs x now = 0 := by unfold bidE; rw [if_neg h, if_neg h1, if_neg h2, if_neg (fun z => z h3), if_neg h4]
  exact ⟨e, by unfold bidL; rw [e, if_pos rfl]⟩
/-- What is found so far. -/
theorem fresh_at {xs : List Bid} {x : Bid} {k : Nat} (hk : xs.length ≤ k) (h : ∀ j, j < k → (xs.getD j Bid.zero).who ≠ x.who) : fresh xs x := fun y hy => by
  obtain ⟨j, hj, rfl⟩ := List.getElem_of_mem hy
  have := h j (by omega)
  rwa [Oct.getD_eq _ hj] at this
theorem not_fresh {xs : List Bid} {x : Bid} {k : Nat} (hk : k < xs.length) (h : (xs.getD k Bid.zero).who = x.who) : ¬ fresh xs x := fun hf => hf _ (by rw [Oct.getD_eq _ hk]; exact List.getElem_mem _) h
def of (L : List Bid) (r : Int) : List Bid := L.filter fun x => decide (x.round = r)
def less (L : List Bid) (r : Int) : List Bid := L.filter fun x => decide (x.round ≠ r)
theorem of_wf {L : List Bid} (h : Wfb L) (r : Int) : Wfb (of L r) := fun x hx => h x (List.mem_filter.1 hx).1
theorem less_wf {L : List Bid} (h : Wfb L) (r : Int) : Wfb (less L r) := fun x hx => h x (List.mem_filter.1 hx).1
theorem of_len (L : List Bid) (r : Int) : (of L r).length ≤ L.length := List.length_filter_le _ _
theorem less_len (L : List Bid) (r : Int) : (less L r).length ≤ L.length := List.length_filter_le _ _
theorem of_yes {L : List Bid} {r : Int} {k : Nat} (hk : k < L.length) (h : (L.getD k Bid.zero).round = r) : of (L.take (k + 1)) r = of (L.take k) r ++ [L.getD k Bid.zero] := by
  unfold of
  rw [Oct.take_succ Bid.zero hk, List.filter_append, List.filter_cons, if_pos (decide_eq_true h)]
  rfl
theorem of_no {L : List Bid} {r : Int} {k : Nat} (hk : k < L.length) (h : ¬ (L.getD k Bid.zero).round = r) : of (L.take (k + 1)) r = of (L.take k) r := by
  unfold of
  rw [Oct.take_succ Bid.zero hk, List.filter_append, List.filter_cons, if_neg (by simpa using h)]
  simp
theorem less_yes {L : List Bid} {r : Int} {k : Nat} (hk : k < L.length) (h : (L.getD k Bid.zero).round ≠ r) : less (L.take (k + 1)) r = less (L.take k) r ++ [L.getD k Bid.zero] := by
  unfold less
  rw [Oct.take_succ Bid.zero hk, List.filter_append, List.filter_cons, if_pos (decide_eq_true h)]
  rfl
theorem less_no {L : List Bid} {r : Int} {k : Nat} (hk : k < L.length) (h : ¬ (L.getD k Bid.zero).round ≠ r) : less (L.take (k + 1)) r = less (L.take k) r := by
  unfold less
  rw [Oct.take_succ Bid.zero hk, List.filter_append, List.filter_cons, if_neg (by simpa using h)]
  simp
/-- The whole list, behind a bid. -/
def more (floor : Int) (L : List Bid) (x : Bid) (now : Int) : List Bid := if bidE floor (of L x.round) x now = 0 then L ++ [x] else L
theorem more_of (floor : Int) (L : List Bid) (x : Bid) (now : Int) : of (more floor L x now) x.round = bidL floor (of L x.round) x now := by
  unfold more bidL
  split
  · unfold of
    rw [List.filter_append, List.filter_cons, if_pos (decide_eq_true rfl)]
    rfl
  · rfl
theorem more_other {floor : Int} {L : List Bid} {x : Bid} {now r : Int} (h : r ≠ x.round) : of (more floor L x now) r = of L r := by
  unfold more
  split
  · unfold of
    rw [List.filter_append, List.filter_cons, if_neg (by simpa using h.symm)]
    simp
  · rfl
theorem more_wf {floor : Int} {L : List Bid} {x : Bid} {now : Int} (h : Wfb L) (hx : Bid.Wf x) : Wfb (more floor L x now) := by
  unfold more
  split
  · intro y hy
    rcases List.mem_append.1 hy with hy | hy
    · exact h y hy
    · rw [List.mem_singleton.1 hy]; exact hx
  · exact h
theorem more_len (floor : Int) (L : List Bid) (x : Bid) (now : Int) : (more floor L x now).length ≤ L.length + 1 := by
  unfold more
  split
  · simp
  · omega
theorem less_of (L : List Bid) (r : Int) : of (less L r) r = [] := by
  unfold of less
  rw [List.filter_filter, List.filter_eq_nil_iff]
  intro x _
  simp
theorem less_other {L : List Bid} {r q : Int} (h : q ≠ r) : of (less L r) q = of L q := by
  unfold of less
  rw [List.filter_filter]
  refine List.filter_congr fun x _ => ?_
  by_cases hx : x.round = q
  · simp [hx, h]
  · simp [hx]
/-- What the bank has behind a close. -/
def paid (B : List Int) (p : Win × Bool) : List Int := if p.2 = true then (Bank.take B p.1.bid.who p.1.price).2 else B
theorem paid_ok {B : List Int} (h : Bank.Ok B) (p : Win × Bool) : Bank.Ok (paid B p) := by
  unfold paid
  split
  · exact Bank.take_keep h _ _
  · exact h
theorem paid_yes {B : List Int} {p : Win × Bool} (h : p.2 = true) : paid B p = (Bank.take B p.1.bid.who p.1.price).2 := if_pos h
theorem paid_no {B : List Int} {p : Win × Bool} (h : ¬ p.2 = true) : paid B p = B := if_neg h
/-! ### A map of slices -/
structure Keyed (f : Int → Option Value) (D : List (Int × Value)) : Prop where
  one : (D.map Prod.fst).Nodup
  at_ : ∀ p ∈ D, (f p.1).getD NV = p.2
  out : ∀ r, r ∉ D.map Prod.fst → f r = none
def rowsOf (E : TypeId) (L : List Bid) (D : List (Int × Value)) : List It := D.map fun p => It.row E 36 p.2 (of L p.1).length (bdc (of L p.1))
def Covers (L : List Bid) (D : List (Int × Value)) : Prop := ∀ r, r ∉ D.map Prod.fst → of L r = []
theorem keyed_nil : Keyed (fun _ => none) [] := ⟨by simp, fun p hp => absurd hp (by simp), fun r _ => rfl⟩
theorem covers_nil (D : List (Int × Value)) : Covers [] D := fun _ _ => rfl
theorem rows_same {E : TypeId} {L M : List Bid} {D : List (Int × Value)} {r : Int} (hr : r ∉ D.map Prod.fst) (h : ∀ q, q ≠ r → of M q = of L q) : rowsOf E M D = rowsOf E L D := by
  unfold rowsOf
  refine List.map_congr_left fun p hp => ?_
  rw [h p.1 (fun e => hr (by rw [← e]; exact List.mem_map_of_mem hp))]
/-- The row of one round ahead. -/
theorem focus {f : Int → Option Value} {D : List (Int × Value)} {L : List Bid} (hk : Keyed f D) (hc : Covers L D) (r : Int) : ∃ v D2, Keyed f ((r, v) :: D2) ∧ Covers L ((r, v) :: D2) ∧
    ∀ (E : TypeId) (n : Nat) (S : List Nat) (w0 : World) (ss : List (Nat × Value)) (l : List It) (a : Go.Act) (w : World), St n S w0 ss (l ++ rowsOf E L D) a w → St n S w0 ss (It.row E 36 v (of L r).length (bdc (of L r)) :: (l ++ rowsOf E L D2)) a w := by
  by_cases hr : r ∈ D.map Prod.fst
  · obtain ⟨p, hp, rfl⟩ := List.mem_map.1 hr
    obtain ⟨D1, D3, rfl⟩ := List.append_of_mem hp
    refine ⟨p.2, D1 ++ D3, ?_, ?_, ?_⟩
    · have hp2 : List.Perm ((p.1, p.2) :: (D1 ++ D3)) (D1 ++ p :: D3) := List.perm_middle.symm
      exact ⟨(hp2.map Prod.fst).nodup_iff.2 hk.one, fun q hq => hk.at_ q (hp2.subset hq), fun q hq => hk.out q (fun hm => hq ((hp2.map Prod.fst).symm.subset hm))⟩
    · have hp2 : List.Perm ((p.1, p.2) :: (D1 ++ D3)) (D1 ++ p :: D3) := List.perm_middle.symm
      exact fun q hq => hc q (fun hm => hq ((hp2.map Prod.fst).symm.subset hm))
    · intro E n S w0 ss l a w H
      have hp2 : List.Perm (D1 ++ p :: D3) (p :: (D1 ++ D3)) := List.perm_middle
      exact ⟨H.fr, H.sep.perm (((hp2.map (fun p : Int × Value => It.row E 36 p.2 (of L p.1).length (bdc (of L p.1)))).append_left l).trans List.perm_middle).symm⟩
  · have e : of L r = [] := hc r hr
    refine ⟨NV, D, ⟨?_, ?_, ?_⟩, ?_, ?_⟩
    · rw [List.map_cons, List.nodup_cons]; exact ⟨hr, hk.one⟩
    · intro p hp
      rcases List.mem_cons.1 hp with rfl | hp
      · show (f r).getD NV = NV
        rw [hk.out r hr]; rfl
      · exact hk.at_ p hp
    · exact fun q hq => hk.out q (fun hm => hq (by rw [List.map_cons]; exact List.mem_cons_of_mem _ hm))
    · exact fun q hq => hc q (fun hm => hq (by rw [List.map_cons]; exact List.mem_cons_of_mem _ hm))
    · intro E n S w0 ss l a w H
      rw [e]
      exact H.nilRow E 36
theorem Keyed.head {f : Int → Option Value} {D : List (Int × Value)} {r : Int} {v : Value} (h : Keyed f ((r, v) :: D)) : (f r).getD NV = v ∧ r ∉ D.map Prod.fst := ⟨h.at_ (r, v) List.mem_cons_self, by have := h.one; rw [List.map_cons, List.nodup_cons] at this; exact this.1⟩
theorem Keyed.swap {f g : Int → Option Value} {D : List (Int × Value)} {r : Int} {v u : Value} (h : Keyed f ((r, v) :: D)) (h1 : (g r).getD NV = u) (h2 : ∀ q, q ≠ r → g q = f q) : Keyed g ((r, u) :: D) := by
  refine ⟨h.one, fun p hp => ?_, fun q hq => ?_⟩
  · rcases List.mem_cons.1 hp with rfl | hp
    · exact h1
    · rw [h2 p.1 (fun e => h.head.2 (by rw [← e]; exact List.mem_map_of_mem hp))]
      exact h.at_ p (List.mem_cons_of_mem _ hp)
  · rw [List.map_cons, List.mem_cons, not_or] at hq
    rw [h2 q hq.1]
    exact h.out q (by rw [List.map_cons, List.mem_cons, not_or]; exact hq)
theorem Covers.swap {L M : List Bid} {D : List (Int × Value)} {r : Int} {v u : Value} (h : Covers L ((r, v) :: D)) (h2 : ∀ q, q ≠ r → of M q = of L q) : Covers M ((r, u) :: D) := fun q hq => by
  rw [List.map_cons, List.mem_cons, not_or] at hq
  rw [h2 q hq.1]
  exact h q (by rw [List.map_cons, List.mem_cons, not_or]; exact hq)
theorem mset_at {f : Int → Option Value} {r : Int} {v : Value} : (mset f r v r).getD NV = v := by simp [mset]
theorem mset_ne {f : Int → Option Value} {r : Int} {v : Value} {q : Int} (h : q ≠ r) : mset f r v q = f q := by simp [mset, h]
theorem mdel_at {f : Int → Option Value} {r : Int} : (mdel f r r).getD NV = NV := by simp [mdel]
theorem mdel_ne {f : Int → Option Value} {r q : Int} (h : q ≠ r) : mdel f r q = f q := by simp [mdel, h]
theorem bdc_round {l : List Bid} (h : Wfb l) {k : Nat} (hk : k < l.length) : (bdc l)[k * 36]? = some (i64 (l.getD k Bid.zero).round) := by
  have := bdc_at h (c := 0) hk (by decide)
  rw [Nat.add_zero] at this
  exact this
/-- One call of a law. -/
structure Act where
  kind : Int
  now : Int
  n : Int
  bid : Bid
def Act.zero : Act := ⟨0, 0, 0, Bid.zero⟩
def Act.cells (a : Act) : List Value := i64 a.kind :: i64 a.now :: i64 a.n :: i64 a.bid.round :: i64 a.bid.who :: i64 a.bid.amount :: i64 a.bid.salt :: a.bid.tag.map u8
structure Act.Wf (a : Act) : Prop where
  kind : I64 a.kind
  now : I64 a.now
  n : I64 a.n
  bid : Bid.Wf a.bid
theorem Act.Wf.len {a : Act} (h : a.Wf) : a.cells.length = 39 := by
  have := h.bid.tag
  simp [Act.cells, this]
def aac (l : List Act) : List Value := (l.map Act.cells).flatten
theorem aac_len {l : List Act} (h : ∀ x ∈ l, Act.Wf x) : (aac l).length = l.length * 39 := flat_lenM l fun x hx => (h x hx).len
theorem aac_take {l : List Act} (h : ∀ x ∈ l, Act.Wf x) (i : Nat) (hi : i < l.length) : ((aac l).drop (i * 39)).take 39 = Act.cells (l.getD i Act.zero) := flat_takeM _ l i (fun x hx => (h x hx).len) hi
theorem aactD {l : List Act} (h : ∀ x ∈ l, Act.Wf x) {k : Nat} (hk : k < l.length) : Act.Wf (l.getD k Act.zero) := by
  rw [List.getD_eq_getElem?_getD, List.getElem?_eq_getElem hk]
  exact h _ (List.getElem_mem _)
end Go.Auction

/- Own words: an effect in a drawn region, said shortly. -/
set_option linter.unusedVariables false
namespace Go.Sx
open Go.RowKit
variable {P : Program} {S : List Nat} {w0 w : World} {l ls : List It} {a : Act} {rl : List Oper} {Q : Exit → Act → World → Prop} {fuel : Nat} {listed : Array Bool}
theorem hfinA (H : Sep S w0 w l) (h : wpAnyH P .any rl.toArray (NoPanic Q) (fun w => Sep S w0 w ls) fuel listed a w) (hs : ls.Sublist l := by repeat (first | exact S1 | exact S0 | apply S2 | apply S3)) : wpList P rl.toArray (HQ P rl Q (fun w => Sep S w0 w ls) fuel listed) [] a w := hfin (H.sub hs) h
end Go.Sx

/- The digest of "abc". -/
set_option maxRecDepth 20000
namespace Go.Sha
def abc : List UInt8 := [97, 98, 99]
end Go.Sha

/- The calls of a bank as cells. -/
namespace Go.Bank
open Go.Sx
def cells (c : Act) : List Value := [i64 c.k, i64 c.a, i64 c.b, i64 c.n]
def Wf (c : Act) : Prop := (-9223372036854775808 ≤ c.k ∧ c.k ≤ 9223372036854775807) ∧ (-9223372036854775808 ≤ c.a ∧ c.a ≤ 9223372036854775807) ∧ (-9223372036854775808 ≤ c.b ∧ c.b ≤ 9223372036854775807) ∧ (-9223372036854775808 ≤ c.n ∧ c.n ≤ 9223372036854775807)
end Go.Bank

/- What a bank answers: the laws, in plain Lean. -/
namespace Go.Bank
def A0 : Act := ⟨0, 0, 0, 0⟩
def L0 : List Int := List.replicate 64 0
def run (l : List Act) (k : Nat) : List Int := (l.take k).foldl (fun L c => (doo L c).2) L0
theorem run_zero (l : List Act) : run l 0 = L0 := by simp [run]
/-! ### Sums -/
theorem wrong1_who {amt a : Int} (h : ¬ (0 ≤ a ∧ a < 64)) : wrong false amt [a] = 20 := wrong_who (k := 0) (by simp) (by simp; omega)
theorem wrong1_none {a : Int} (h : 0 ≤ a ∧ a < 64) : ¬ ∃ x ∈ [a], x < 0 ∨ 64 ≤ x := by rintro ⟨x, hx, h'⟩; rw [List.mem_singleton.1 hx] at h'; omega
theorem wrong1_amt {amt a : Int} (h : 0 ≤ a ∧ a < 64) (h1 : ¬ (0 ≤ amt ∧ amt ≤ 1099511627776)) : wrong false amt [a] = 2 := wrong_amt (wrong1_none h) (by omega)
theorem wrong1_ok {amt a : Int} (h : 0 ≤ a ∧ a < 64) (h1 : 0 ≤ amt ∧ amt ≤ 1099511627776) : wrong false amt [a] = 0 := wrong_ok (wrong1_none h) (by omega)
theorem put_20 {L : List Int} {a n : Int} (h : ¬ (0 ≤ a ∧ a < 64)) : put L a n = (20, L) := by rw [put_bad (by rw [wrong1_who h]; decide), wrong1_who h]
theorem put_2 {L : List Int} {a n : Int} (h : 0 ≤ a ∧ a < 64) (h1 : ¬ (0 ≤ n ∧ n ≤ 1099511627776)) : put L a n = (2, L) := by rw [put_bad (by rw [wrong1_amt h h1]; decide), wrong1_amt h h1]
theorem take_20 {L : List Int} {a n : Int} (h : ¬ (0 ≤ a ∧ a < 64)) : take L a n = (20, L) := by rw [take_bad (by rw [wrong1_who h]; decide), wrong1_who h]
theorem take_2 {L : List Int} {a n : Int} (h : 0 ≤ a ∧ a < 64) (h1 : ¬ (0 ≤ n ∧ n ≤ 1099511627776)) : take L a n = (2, L) := by rw [take_bad (by rw [wrong1_amt h h1]; decide), wrong1_amt h h1]
end Go.Bank

/- Own words: a list of texts among the arguments: its room, and what each text weighs. -/
set_option linter.unusedVariables false
set_option linter.unusedSimpArgs false
namespace Go.Sx
open Go.RowKit Go.WideShapes Go.ChangeAt Go.ChangeShapes
section
variable {H : Type} {enc : TypeId × Value → H} {P : Program} {W : World} {base : Nat} {held : Bool}
theorem weightsAll_mem {e : TypeId} : ∀ {l : List (DataW H)} {d : DataW H} {z : Nat}, d ∈ l → z ∈ d.weights P e → z ∈ DataW.weightsAll P e l
  | [], _, _, h, _ => by cases h
  | x :: l, d, z, h, hz => by
    rw [DataW.weightsAll]
    rcases List.mem_cons.1 h with rfl | h
    · exact List.mem_append_left _ hz
    · exact List.mem_append_right _ (weightsAll_mem h hz)
end
end Go.Sx

/- Own words: a slice among the arguments, row by row, with what each row weighs. -/
set_option linter.unusedVariables false
set_option linter.unusedSimpArgs false
namespace Go.Sx
open Go.RowKit Go.WideShapes Go.ChangeAt Go.ChangeShapes
section
variable {H : Type} {enc : TypeId × Value → H} {P : Program} {W : World} {sp : Nat → Bool} {held : Bool} {t e : TypeId} {cs : List Value}
theorem Trw.sliceC (h : Trw enc P W sp held t cs) (ht : P.underlying t = some (.slice e)) (hz : 0 < P.cellsOf e) : ∃ a m c, cs = [.slice a m c] ∧ m ≤ c ∧ m ≤ 9223372036854775807 ∧ ∃ rows : List (List Value), rows.length = m ∧ Rd W a rows.flatten ∧ ∀ r ∈ rows, r.length = P.cellsOf e ∧ Trw enc P W sp held e r := by
  obtain ⟨fuel, x, hf, hw⟩ := h
  rcases Go.Deep.open_slice ht hf with ⟨h0, _⟩ | ⟨a, len, cap, m, n, D, Pl, h0, _, hl, hm, hmm, hx, hel⟩
  · exact ⟨none, 0, 0, h0, by omega, by omega, [], rfl, .inl rfl, by simp⟩
  · have hle : len ≤ m := by rw [hmm]; split <;> omega
    unfold maxLen at hm
    have hwd : ∀ i, i < len → ∀ z ∈ (D i).weights P e, z ≤ reachBytes := fun i hi z hz => by
      refine hw z ?_
      subst hx
      simp only [DataW.weights, ht]
      exact List.mem_cons_of_mem _ (List.mem_append_left _ (weightsAll_mem (List.mem_map.2 ⟨i, by simpa using hi, rfl⟩) hz))
    have hrow : ∀ i, i < len → ∃ cs', W.cells? 0 (a.add (i * P.cellsOf e)) (P.cellsOf e) = some cs' ∧ Trw enc P W sp held e cs' := fun i hi => by
      obtain ⟨cs', h1, h2⟩ := hel i (by omega)
      exact ⟨cs', h1, n, _, h2, hwd i hi⟩
    let f : Nat → List Value := fun i => (W.cells? 0 (a.add (i * P.cellsOf e)) (P.cellsOf e)).getD []
    have hf' : ∀ i, i < len → W.cells? 0 (a.add (i * P.cellsOf e)) (P.cellsOf e) = some (f i) ∧ Trw enc P W sp held e (f i) := fun i hi => by
      obtain ⟨cs', h1, h2⟩ := hrow i hi
      have : f i = cs' := by show (W.cells? 0 _ _).getD [] = cs'; rw [h1]; rfl
      rw [this]
      exact ⟨h1, h2⟩
    refine ⟨some a, len, cap, h0, hl, by omega, (List.range len).map f, by simp, ?_, ?_⟩
    · by_cases h00 : len = 0
      · subst h00; exact .inl rfl
      · right
        refine ⟨a, rfl, Rd.flat (z := P.cellsOf e) (fun r hr => ?_) hz fun i j v hv => ?_⟩
        · obtain ⟨i, hi, rfl⟩ := List.mem_map.1 hr
          exact (cells_get (hf' i (by simpa using hi)).1).1
        · have h00' := cells_get (hf' 0 (by omega)).1
          have c0 : ∃ u, W.cell? a = some u := by
            have h1 := h00'.2 0 hz
            rw [Nat.zero_mul, add_zero, add_zero] at h1
            exact ⟨_, by rw [h1]; exact List.getElem?_eq_getElem (by omega)⟩
          obtain ⟨u, hu⟩ := c0
          simp only [List.getElem?_map, Option.bind_eq_some_iff, Option.map_eq_some_iff] at hv
          obtain ⟨r, ⟨i', hi', rfl⟩, hv⟩ := hv
          have hi : i < len ∧ i' = i := by
            have := List.getElem?_eq_some_iff.1 hi'
            obtain ⟨h1, h2⟩ := this
            simp at h1 h2
            omega
          obtain ⟨hi, rfl⟩ := hi
          obtain ⟨h1, h2⟩ := cells_get (hf' i' hi).1
          have hj : j < P.cellsOf e := by
            have := (List.getElem?_eq_some_iff.1 hv).1
            omega
          rw [← add_add0 hu, h2 j hj]
          exact hv
    · intro r hr
      obtain ⟨i, hi, rfl⟩ := List.mem_map.1 hr
      have := hf' i (by simpa using hi)
      exact ⟨(cells_get this.1).1, this.2⟩
end
end Go.Sx
