/- Part of a proof about given Go functions: contracts of functions, or plain laws. -/
import Derived.Test.YtbdkgmkaakoigaaS3
import Derived.Test.YtbdkgmkaakoigaaS2
import Derived.Test.YtbdkgmkaakoigaaS1
import GoSem.Op.String
import Derived.Stop.BytesEq
import Derived.Deep.RegionHeld3
/- Keys and tags, in plain Lean. -/
namespace Go.Seal
def Z : List UInt8 := List.replicate 32 0
def key (who : Int) : List UInt8 × Int := if who < 0 ∨ 64 < who then (Z, 20) else (Sha.sum ([107, 101, 121] ++ (Oct.number who).1), 0)
def tag (who dom : Int) (body : List UInt8) : List UInt8 × Int :=
  if (key who).2 ≠ 0 then (Z, (key who).2) else if dom < 1 ∨ 4 < dom then (Z, 2) else (Sha.sum ((key who).1 ++ ([UInt8.ofNat dom.toNat] ++ body)), 0)
def check (who dom : Int) (body t : List UInt8) : Int := if (tag who dom body).2 ≠ 0 then (tag who dom body).2 else if (tag who dom body).1 ≠ t then 21 else 0
theorem check_ok {who dom : Int} {body t : List UInt8} (h : (tag who dom body).2 = 0) (h1 : (tag who dom body).1 = t) : check who dom body t = 0 := by unfold check; rw [if_neg (by omega), if_neg (by simp [h1])]
end Go.Seal

/- Bids, receipts, batches and items as bytes, in plain Lean. -/
namespace Go.Note
def okNum (n : Int) : Bool := decide (0 ≤ n ∧ n ≤ 1099511627776)
def nums (l : List Int) : Bool := l.all okNum
def num (n : Int) : List UInt8 := (Oct.number n).1
/-- A list that is all of a text. -/
def whole (s : List UInt8) : List (List UInt8) × Int := if (Oct.rdl s 0).2.2 ≠ 0 then ([], (Oct.rdl s 0).2.2) else if (Oct.rdl s 0).2.1 < s.length then ([], 6) else ((Oct.rdl s 0).1, 0)
/-- A number that is all of a text. -/
def wn (t : List UInt8) : Int × Int := if (Oct.rdn t 0).2.2 ≠ 0 then (0, (Oct.rdn t 0).2.2) else if (Oct.rdn t 0).2.1 < t.length then (0, 6) else ((Oct.rdn t 0).1, 0)
def okn (t : List UInt8) : Bool := decide ((wn t).2 = 0)
/-- The first k of some texts as numbers. -/
def first (L : List (List UInt8)) (k : Nat) : Option (List Int) := if L.length < k then none else if (L.take k).all okn then some ((L.take k).map fun t => (wn t).1) else none
/-- A list whose first k texts are numbers. -/
def fields (s : List UInt8) (k : Nat) : Option (List Int × List (List UInt8)) := if (whole s).2 ≠ 0 then none else (first (whole s).1 k).map fun ns => (ns, (whole s).1.drop k)
def Z : List UInt8 := List.replicate 32 0
structure Bid where
  round : Int
  who : Int
  amount : Int
  salt : Int
  tag : List UInt8
def Bid.zero : Bid := ⟨0, 0, 0, 0, Z⟩
def Bid.ok (b : Bid) : Bool := nums [b.round, b.who, b.amount, b.salt] && decide (b.who < 64)
def Bid.said (b : Bid) : List UInt8 := (Oct.list [num b.round, num b.who, num b.amount, num b.salt]).1
def writeBid (b : Bid) : List UInt8 × Int := if b.ok then Oct.list [num b.round, num b.who, num b.amount, num b.salt, b.tag] else ([], 2)
def signBid (b : Bid) : Bid × Int := if b.ok then ({ b with tag := (Seal.tag b.who 3 b.said).1 }, 0) else (Bid.zero, 2)
def checkBid (b : Bid) : Int := if b.ok then (if (Seal.tag b.who 3 b.said).1 = b.tag then 0 else 21) else 2
structure Receipt where
  index : Int
  kind : Int
  time : Int
  body : List UInt8
  prev : List UInt8
  hash : List UInt8
def Receipt.zero : Receipt := ⟨0, 0, 0, [], Z, Z⟩
def Receipt.ok (r : Receipt) : Bool := nums [r.index, r.time] && decide (r.kind = 1 ∨ r.kind = 2) && decide (r.body.length ≤ 656)
structure Part where
  delayed : Bool
  text : List UInt8
def Part.ok (p : Part) : Bool := if p.delayed then decide (p.text = []) else decide (p.text.length ≤ 656)
def Part.laid (p : Part) : List UInt8 := if p.delayed then [2] else 1 :: p.text
structure Batch where
  seq : Int
  first : Int
  before : Int
  parts : List Part
def Batch.zero : Batch := ⟨0, 0, 0, []⟩
/-- A part's text, read. -/
def part (t : List UInt8) : Option Part :=
  if t = [2] then some ⟨true, []⟩ else if t.getD 0 0 = 1 ∧ t ≠ [] ∧ t.length ≤ 657 then some ⟨false, t.drop 1⟩ else none
def parts (l : List (List UInt8)) : Option (List Part) := l.mapM part
structure Item where
  kind : Int
  who : Int
  n : Int
  text : List UInt8
def Item.zero : Item := ⟨0, 0, 0, []⟩
def Item.ok (i : Item) : Bool := nums [i.who, i.n] && decide (i.who ≤ 64) && decide (i.text.length ≤ 65472) && (if i.kind = 1 ∨ i.kind = 3 then decide (i.n = 0) else if i.kind = 2 then decide (i.who = 0) && decide (i.text = []) else false)
/-! ### Small laws for the walks -/
theorem nums_bad {l : List Int} {k : Nat} (h : k < l.length) (hx : ¬ (0 ≤ l.getD k 0 ∧ l.getD k 0 ≤ 1099511627776)) : nums l = false := by
  unfold nums
  rw [List.all_eq_false]
  refine ⟨l.getD k 0, ?_, by simp only [okNum, decide_eq_true_eq]; exact hx⟩
  rw [Oct.getD_eq 0 h]
  exact List.getElem_mem h
theorem take_all {α : Type} {f : α → Bool} {l : List α} {k : Nat} (d : α) (h : k < l.length) (ht : (l.take k).all f = true) (hx : f (l.getD k d) = true) : (l.take (k + 1)).all f = true := by
  rw [Oct.take_succ d h, List.all_append, ht, List.all_cons, hx]
  rfl
theorem nums_all {l : List Int} {k : Nat} (h : l.length ≤ k) (ht : (l.take k).all okNum = true) : nums l = true := by
  rw [List.take_of_length_le h] at ht
  exact ht
end Go.Note
namespace Go.Note
theorem Z_len : Z.length = 32 := rfl
end Go.Note
namespace Go.Note
end Go.Note
namespace Go.Note
end Go.Note
namespace Go.Note
instance : DecidableEq Bid := fun x y => decidable_of_iff (x.round = y.round ∧ x.who = y.who ∧ x.amount = y.amount ∧ x.salt = y.salt ∧ x.tag = y.tag) (by cases x; cases y; simp)
instance : DecidableEq Receipt := fun x y => decidable_of_iff (x.index = y.index ∧ x.kind = y.kind ∧ x.time = y.time ∧ x.body = y.body ∧ x.prev = y.prev ∧ x.hash = y.hash) (by cases x; cases y; simp)
instance : DecidableEq Part := fun x y => decidable_of_iff (x.delayed = y.delayed ∧ x.text = y.text) (by cases x; cases y; simp)
instance : DecidableEq Item := fun x y => decidable_of_iff (x.kind = y.kind ∧ x.who = y.who ∧ x.n = y.n ∧ x.text = y.text) (by cases x; cases y; simp)
instance : DecidableEq Batch := fun x y => decidable_of_iff (x.seq = y.seq ∧ x.first = y.first ∧ x.before = y.before ∧ x.parts = y.parts) (by cases x; cases y; simp)
end Go.Note
namespace Go.Note
end Go.Note
namespace Go.Note
end Go.Note
namespace Go.Note
end Go.Note
namespace Go.Note
theorem Batch.same {x y : Batch} (h1 : x.seq = y.seq) (h2 : x.first = y.first) (h3 : x.before = y.before) (h4 : x.parts = y.parts) : x = y := by
  cases x
  cases y
  simp only at *
  subst h1 h2 h3 h4
  rfl
end Go.Note
namespace Go.Note
end Go.Note

/- What is written is read as it was, and back. -/
namespace Go.Note
theorem list_small {l : List (List UInt8)} (h1 : l.length ≤ 1024) (h2 : l.flatten.length ≤ 65536) : (Oct.list l).2 = 0 := by rw [Oct.list_ok (by omega) (by omega)]
theorem num_len {n : Int} (h1 : n ≤ 9223372036854775807) : (num n).length ≤ 9 := Oct.number_len h1
/-! ### What is read is written as it was -/
end Go.Note

/- What comes at any rate; small laws on what is read. -/
namespace Go.Note
def b0 : Bid := ⟨1, 2, 3, 0, Z⟩
end Go.Note

/- Transactions, in plain Lean. -/
namespace Go.Txs
open Go.Note (num Z Z_len list_small num_len)
structure Tx where
  src : Int
  nonce : Int
  fee : Int
  dst : Int
  data : List UInt8
  lane : Bool
  round : Int
  turn : Int
  hand : List UInt8
  tag : List UInt8
instance : DecidableEq Tx := fun x y => decidable_of_iff (x.src = y.src ∧ x.nonce = y.nonce ∧ x.fee = y.fee ∧ x.dst = y.dst ∧ x.data = y.data ∧ x.lane = y.lane ∧ x.round = y.round ∧ x.turn = y.turn ∧ x.hand = y.hand ∧ x.tag = y.tag) (by cases x; cases y; simp)
def Tx.zero : Tx := ⟨0, 0, 0, 0, [], false, 0, 0, Z, Z⟩
def within (n m : Int) : Prop := 0 ≤ n ∧ n ≤ m
instance (n m : Int) : Decidable (within n m) := by unfold within; infer_instance
def okWho (t : Tx) : Prop := within t.src 63 ∧ within t.dst 63
def okArg (t : Tx) : Prop := (within t.nonce 1099511627776 ∧ within t.fee 1099511627776) ∧ (t.lane = true → within t.round 1099511627776 ∧ within t.turn 1099511627776) ∧ (t.lane = false → t.round = 0 ∧ t.turn = 0 ∧ t.hand = Z)
instance (t : Tx) : Decidable (okWho t) := by unfold okWho; infer_instance
instance (t : Tx) : Decidable (okArg t) := by unfold okArg; infer_instance
def check (t : Tx) : Int := if ¬ okWho t then 20 else if ¬ okArg t then 2 else if 256 < t.data.length then 3 else 0
def fields (t : Tx) : List (List UInt8) := [num t.src, num t.nonce, num t.fee, num t.dst, t.data] ++ (if t.lane = true then [num t.round, num t.turn] else [])
def body (t : Tx) : List UInt8 × Int := if check t ≠ 0 then ([], check t) else Oct.list (fields t)
def hand (t : Tx) (who : Int) : Tx × Int :=
  if (body t).2 ≠ 0 then (Tx.zero, (body t).2) else if ¬ within who 63 then (Tx.zero, 20) else if t.lane = false then (Tx.zero, 2) else ({ t with hand := (Seal.tag who 2 (body t).1).1 }, 0)
theorem check_who {t : Tx} (h : ¬ okWho t) : check t = 20 := by unfold check; rw [if_pos h]
theorem check_arg {t : Tx} (h : okWho t) (h1 : ¬ okArg t) : check t = 2 := by unfold check; rw [if_neg (fun x => x h), if_pos h1]
theorem check_big {t : Tx} (h : okWho t) (h1 : okArg t) (h2 : 256 < t.data.length) : check t = 3 := by unfold check; rw [if_neg (fun x => x h), if_neg (fun x => x h1), if_pos h2]
theorem check_ok {t : Tx} (h : okWho t) (h1 : okArg t) (h2 : ¬ 256 < t.data.length) : check t = 0 := by unfold check; rw [if_neg (fun x => x h), if_neg (fun x => x h1), if_neg h2]
theorem check_is {t : Tx} : check t = 0 ↔ okWho t ∧ okArg t ∧ t.data.length ≤ 256 := by
  by_cases h : okWho t
  · by_cases h1 : okArg t
    · by_cases h2 : 256 < t.data.length
      · rw [check_big h h1 h2]
        exact ⟨fun x => by simp at x, fun x => by omega⟩
      · rw [check_ok h h1 h2]
        exact ⟨fun _ => ⟨h, h1, by omega⟩, fun _ => rfl⟩
    · rw [check_arg h h1]
      exact ⟨fun x => by simp at x, fun x => absurd x.2.1 h1⟩
  · rw [check_who h]
    exact ⟨fun x => by simp at x, fun x => absurd x.1 h⟩
end Go.Txs

/- The inbox's messages and calls, in plain Lean. -/
namespace Go.Inbox
open Go.Note
structure Block where
  number : Int
  salt : Int
  parent : List UInt8
  items : List Note.Item
structure Entry where
  who : Int
  text : List UInt8
  block : Int
  acc : List UInt8
instance : DecidableEq Entry := fun x y => decidable_of_iff (x.who = y.who ∧ x.text = y.text ∧ x.block = y.block ∧ x.acc = y.acc) (by cases x; cases y; simp)
def Entry.zero : Entry := ⟨0, [], 0, Z⟩
/-- A message, as an item. -/
def isMsg (i : Note.Item) : Bool := i.ok && decide (i.kind = 1) && decide (i.text.length ≤ 640)
def next (acc : List UInt8) (who : Int) (text : List UInt8) : List UInt8 := Sha.sum (acc ++ (Oct.list [num who, text]).1)
/-- Messages of items: what stands for all, and the entries. -/
def step (block : Int) (s : List UInt8 × List Entry) (i : Note.Item) : List UInt8 × List Entry := if isMsg i then (next s.1 i.who i.text, s.2 ++ [⟨i.who, i.text, block, next s.1 i.who i.text⟩]) else s
def blockStep (s : List UInt8 × List Entry) (b : Block) : List UInt8 × List Entry := b.items.foldl (step b.number) s
def run (s : List UInt8 × List Entry) (l : List Block) : List UInt8 × List Entry := l.foldl blockStep s
def messages (l : List Block) : List Entry := (run (Z, []) l).2
/-! ### Laws -/
/-! ### Reach -/
end Go.Inbox

/- The pool, in plain Lean. -/
namespace Go.Pool
open Go.Txs (Tx within)
structure Wait where
  tx : Tx
  index : Int
  till : Int
  time : Int
  place : Int
instance : DecidableEq Wait := fun x y => decidable_of_iff (x.tx = y.tx ∧ x.index = y.index ∧ x.till = y.till ∧ x.time = y.time ∧ x.place = y.place) (by cases x; cases y; simp)
def Wait.zero : Wait := ⟨Tx.zero, 0, 0, 0, 0⟩
def less (a b : Wait) : Prop := a.time < b.time ∨ a.time = b.time ∧ a.place < b.place
instance (a b : Wait) : Decidable (less a b) := by unfold less; infer_instance
def meets (x w : Wait) : Prop := x.index = w.index ∨ x.tx.src = w.tx.src ∧ x.tx.nonce = w.tx.nonce
instance (a b : Wait) : Decidable (meets a b) := by unfold meets; infer_instance
def twice (L : List Wait) (w : Wait) : Prop := ∃ x ∈ L, meets x w
instance (L : List Wait) (w : Wait) : Decidable (twice L w) := by unfold twice; infer_instance
def right (w : Wait) : Prop := Txs.check w.tx = 0 ∧ within w.index 1099511627776 ∧ within w.till 1099511627776 ∧ within w.time 1099511627776 ∧ within w.place 1099511627776
instance (w : Wait) : Decidable (right w) := by unfold right; infer_instance
/-- The poorest of the first so many. -/
def poorest (L : List Wait) : Nat → Nat
  | 0 => 0
  | i + 1 => if (L.getD i Wait.zero).tx.fee ≤ (L.getD (poorest L i) Wait.zero).tx.fee then i else poorest L i
def behind (w : Wait) (x : Wait) : Bool := decide (¬ w.index < x.index)
def pos (L : List Wait) (w : Wait) : Nat := (L.takeWhile (behind w)).length
def ins (L : List Wait) (w : Wait) : List Wait := L.take (pos L w) ++ w :: L.drop (pos L w)
structure Pool where
  size : Int
  L : List Wait
def put (p : Pool) (w : Wait) : Pool × Wait × Bool × Int :=
  if ¬ right w then (p, Wait.zero, false, 2)
  else if twice p.L w then (p, Wait.zero, false, 23)
  else if (p.L.length : Int) < p.size then ({ p with L := ins p.L w }, Wait.zero, false, 0)
  else if w.tx.fee ≤ (p.L.getD (poorest p.L p.L.length) Wait.zero).tx.fee then (p, Wait.zero, false, 25)
  else ({ p with L := ins (p.L.eraseIdx (poorest p.L p.L.length)) w }, p.L.getD (poorest p.L p.L.length) Wait.zero, true, 0)
def isOld (now : Int) (w : Wait) : Bool := decide (w.till < now)
def old (p : Pool) (now : Int) : Pool × List Wait := ({ p with L := p.L.filter fun w => !isOld now w }, p.L.filter (isOld now))
def nextOf (nx : List Int) (w : Wait) : Int := nx.getD w.tx.src.toNat 0
def ready (nx : List Int) (now : Int) (w : Wait) : Prop := w.time ≤ now ∧ w.tx.nonce = nextOf nx w
instance (nx : List Int) (now : Int) (w : Wait) : Decidable (ready nx now w) := by unfold ready; infer_instance
/-- What is ready and first among the first so many. -/
def pick (L : List Wait) (nx : List Int) (now : Int) : Nat → Option Nat
  | 0 => none
  | i + 1 => match pick L nx now i with
    | none => if ready nx now (L.getD i Wait.zero) then some i else none
    | some k => if ready nx now (L.getD i Wait.zero) ∧ less (L.getD i Wait.zero) (L.getD k Wait.zero) then some i else some k
def follows (out w : Wait) : Prop := w.tx.src = out.tx.src ∧ w.tx.nonce = out.tx.nonce + 1 ∧ less w out
instance (a b : Wait) : Decidable (follows a b) := by unfold follows; infer_instance
def raise (out w : Wait) : Wait := if follows out w then { w with time := out.time, place := out.place } else w
def next (p : Pool) (nx : List Int) (now : Int) : Pool × Wait × Bool :=
  match pick p.L nx now p.L.length with
  | none => (p, Wait.zero, false)
  | some k => ({ p with L := (p.L.eraseIdx k).map (raise (p.L.getD k Wait.zero)) }, p.L.getD k Wait.zero, true)
/-! ### What a good pool is -/
structure Good (p : Pool) : Prop where
  size : 1 ≤ p.size ∧ p.size ≤ 256
  fits : (p.L.length : Int) ≤ p.size
  right : ∀ w ∈ p.L, Pool.right w
  sorted : p.L.Pairwise fun a b => a.index < b.index
  one : p.L.Pairwise fun a b => ¬ (a.tx.src = b.tx.src ∧ a.tx.nonce = b.tx.nonce)
theorem good_new {n : Int} (h : 1 ≤ n ∧ n ≤ 256) : Good ⟨n, []⟩ := ⟨h, by simp; omega, by simp, .nil, .nil⟩
theorem mem_getD {L : List Wait} {k : Nat} (h : k < L.length) : L.getD k Wait.zero ∈ L := by
  rw [List.getD_eq_getElem?_getD, List.getElem?_eq_getElem h]
  exact List.getElem_mem h
theorem getD_el {L : List Wait} {k : Nat} (h : k < L.length) : L.getD k Wait.zero = L[k] := by
  rw [List.getD_eq_getElem?_getD, List.getElem?_eq_getElem h]
  rfl
theorem sorted_lt {L : List Wait} (hs : L.Pairwise fun a b => a.index < b.index) {i j : Nat} (h : i < j) (hj : j < L.length) : (L.getD i Wait.zero).index < (L.getD j Wait.zero).index := by
  rw [getD_el hj, getD_el (by omega)]
  exact List.pairwise_iff_getElem.1 hs i j (by omega) hj h
/-- Where one belongs. -/
theorem pos_le (L : List Wait) (w : Wait) : pos L w ≤ L.length := List.Sublist.length_le (List.takeWhile_sublist _)
theorem pos_below : ∀ {L : List Wait} {w : Wait} {i : Nat}, i < pos L w → ¬ w.index < (L.getD i Wait.zero).index
  | [], w, i, h => absurd h (by simp [pos])
  | x :: L, w, i, h => by
    unfold pos at h
    rw [List.takeWhile_cons] at h
    cases hx : behind w x with
    | false => rw [hx] at h; exact absurd h (by simp)
    | true =>
      rw [hx] at h
      cases i with
      | zero => exact of_decide_eq_true hx
      | succ i => exact pos_below (L := L) (by unfold pos; simpa using h)
theorem pos_at : ∀ {L : List Wait} {w : Wait}, pos L w < L.length → w.index < (L.getD (pos L w) Wait.zero).index
  | [], w, h => absurd h (by simp)
  | x :: L, w, h => by
    unfold pos at h ⊢
    rw [List.takeWhile_cons] at h ⊢
    cases hx : behind w x with
    | false => exact Decidable.of_not_not (of_decide_eq_false hx)
    | true =>
      rw [hx] at h
      exact pos_at (L := L) (by unfold pos; simpa using h)
theorem pos_eq {L : List Wait} {w : Wait} {k : Nat} (hk : k ≤ L.length) (h1 : ∀ i, i < k → ¬ w.index < (L.getD i Wait.zero).index) (h2 : k < L.length → w.index < (L.getD k Wait.zero).index) : pos L w = k := by
  have hl := pos_le L w
  rcases Nat.lt_trichotomy (pos L w) k with h | h | h
  · exact absurd (pos_at (by omega)) (h1 _ h)
  · exact h
  · exact absurd (h2 (by omega)) (pos_below h)
theorem getD_erase {L : List Wait} {k i : Nat} : (L.eraseIdx k).getD i Wait.zero = if i < k then L.getD i Wait.zero else L.getD (i + 1) Wait.zero := by
  rw [List.getD_eq_getElem?_getD, List.getElem?_eraseIdx]
  split <;> rw [List.getD_eq_getElem?_getD]
theorem pos_erase {L : List Wait} {w : Wait} {k : Nat} (hs : L.Pairwise fun a b => a.index < b.index) (hk : k < L.length) : pos (L.eraseIdx k) w = if k < pos L w then pos L w - 1 else pos L w := by
  have hl := pos_le L w
  have hlen : (L.eraseIdx k).length = L.length - 1 := by rw [List.length_eraseIdx, if_pos hk]
  split
  · rename_i h
    refine pos_eq (by omega) (fun i hi => ?_) (fun hi => ?_)
    · rw [getD_erase]
      split
      · exact pos_below (by omega)
      · exact pos_below (by omega)
    · rw [getD_erase, if_neg (by omega), show pos L w - 1 + 1 = pos L w by omega]
      exact pos_at (by omega)
  · rename_i h
    refine pos_eq (by omega) (fun i hi => ?_) (fun hi => ?_)
    · rw [getD_erase, if_pos (by omega)]
      exact pos_below (by omega)
    · rw [getD_erase]
      have hp : w.index < (L.getD (pos L w) Wait.zero).index := pos_at (by omega)
      split
      · exact hp
      · exact Int.lt_trans hp (sorted_lt hs (by omega) (by omega))
theorem poorest_lt {L : List Wait} : ∀ {i : Nat}, 0 < i → poorest L i < i
  | 0, h => absurd h (by omega)
  | i + 1, _ => by
    unfold poorest
    split
    · omega
    · by_cases h0 : i = 0
      · subst h0
        rename_i h
        exact absurd (Int.le_refl _) h
      · have := poorest_lt (L := L) (i := i) (by omega)
        omega
/-- What is filtered by its number is what is struck at its place. -/
theorem filter_erase {L : List Wait} {k : Nat} (hs : L.Pairwise fun a b => a.index < b.index) (hk : k < L.length) : L.filter (fun x => decide (x.index ≠ (L.getD k Wait.zero).index)) = L.eraseIdx k := by
  have e : L = L.take k ++ (L.getD k Wait.zero :: L.drop (k + 1)) := by
    rw [getD_el hk]
    simp
  have h1 : ∀ x ∈ L.take k, x.index ≠ (L.getD k Wait.zero).index := by
    intro x hx
    obtain ⟨i, hi, rfl⟩ := List.getElem_of_mem hx
    rw [List.length_take] at hi
    rw [List.getElem_take, ← getD_el (by omega)]
    have := sorted_lt hs (show i < k by omega) hk
    omega
  have h2 : ∀ x ∈ L.drop (k + 1), x.index ≠ (L.getD k Wait.zero).index := by
    intro x hx
    obtain ⟨i, hi, rfl⟩ := List.getElem_of_mem hx
    rw [List.length_drop] at hi
    rw [List.getElem_drop, ← getD_el (by omega)]
    have := sorted_lt hs (show k < k + 1 + i by omega) (by omega)
    omega
  generalize L.getD k Wait.zero = y at e h1 h2 ⊢
  rw [List.eraseIdx_eq_take_drop_succ]
  conv => lhs; rw [e]
  rw [List.filter_append, List.filter_cons, if_neg (by simp), List.filter_eq_self.2 (fun x hx => decide_eq_true (h1 x hx)), List.filter_eq_self.2 (fun x hx => decide_eq_true (h2 x hx))]
theorem erase_sub (L : List Wait) (k : Nat) : List.Sublist (L.eraseIdx k) L := List.eraseIdx_sublist _ _
theorem ins_mem {L : List Wait} {w x : Wait} : x ∈ ins L w ↔ x = w ∨ x ∈ L := by
  unfold ins
  rw [List.mem_append, List.mem_cons]
  constructor
  · rintro (h | h | h)
    · exact .inr (List.mem_of_mem_take h)
    · exact .inl h
    · exact .inr (List.mem_of_mem_drop h)
  · rintro (h | h)
    · exact .inr (.inl h)
    · rw [← List.take_append_drop (pos L w) L, List.mem_append] at h
      rcases h with h | h
      · exact .inl h
      · exact .inr (.inr h)
theorem ins_len (L : List Wait) (w : Wait) : (ins L w).length = L.length + 1 := by
  have := pos_le L w
  unfold ins
  simp only [List.length_append, List.length_take, List.length_cons, List.length_drop]
  omega
theorem ins_sorted {L : List Wait} {w : Wait} (hs : L.Pairwise fun a b => a.index < b.index) (hn : ∀ x ∈ L, x.index ≠ w.index) : (ins L w).Pairwise fun a b => a.index < b.index := by
  have hp := pos_le L w
  unfold ins
  rw [List.pairwise_append]
  have hlow : ∀ x ∈ L.take (pos L w), x.index < w.index := by
    intro x hx
    obtain ⟨i, hi, rfl⟩ := List.getElem_of_mem hx
    rw [List.length_take] at hi
    rw [List.getElem_take, ← getD_el (by omega)]
    have h1 := pos_below (L := L) (w := w) (i := i) (by omega)
    have h2 := hn _ (mem_getD (L := L) (k := i) (by omega))
    omega
  have hup : ∀ x ∈ L.drop (pos L w), w.index < x.index := by
    intro x hx
    obtain ⟨i, hi, rfl⟩ := List.getElem_of_mem hx
    rw [List.length_drop] at hi
    rw [List.getElem_drop, ← getD_el (by omega)]
    have h1 := pos_at (L := L) (w := w) (by omega)
    by_cases h0 : i = 0
    · subst h0; exact h1
    · have := sorted_lt hs (show pos L w < pos L w + i by omega) (by omega)
      omega
  refine ⟨hs.sublist (List.take_sublist _ _), ?_, fun a ha b hb => ?_⟩
  · rw [List.pairwise_cons]
    exact ⟨hup, hs.sublist (List.drop_sublist _ _)⟩
  · rcases List.mem_cons.1 hb with rfl | hb
    · exact hlow a ha
    · have := hlow a ha
      have := hup b hb
      omega
theorem ins_one {L : List Wait} {w : Wait} (hs : L.Pairwise fun a b => ¬ (a.tx.src = b.tx.src ∧ a.tx.nonce = b.tx.nonce)) (hn : ∀ x ∈ L, ¬ (x.tx.src = w.tx.src ∧ x.tx.nonce = w.tx.nonce)) : (ins L w).Pairwise fun a b => ¬ (a.tx.src = b.tx.src ∧ a.tx.nonce = b.tx.nonce) := by
  unfold ins
  rw [List.pairwise_append]
  rw [← List.take_append_drop (pos L w) L, List.pairwise_append] at hs
  refine ⟨hs.1, ?_, fun a ha b hb => ?_⟩
  · rw [List.pairwise_cons]
    exact ⟨fun x hx e => hn x (List.mem_of_mem_drop hx) ⟨e.1.symm, e.2.symm⟩, hs.2.1⟩
  · rcases List.mem_cons.1 hb with rfl | hb
    · exact hn a (List.mem_of_mem_take ha)
    · exact hs.2.2 a ha b hb
theorem not_twice {L : List Wait} {w : Wait} (h : ¬ twice L w) : (∀ x ∈ L, x.index ≠ w.index) ∧ ∀ x ∈ L, ¬ (x.tx.src = w.tx.src ∧ x.tx.nonce = w.tx.nonce) :=
  ⟨fun x hx e => h ⟨x, hx, .inl e⟩, fun x hx e => h ⟨x, hx, .inr e⟩⟩
theorem good_put {p : Pool} (h : Good p) (w : Wait) : Good (put p w).1 := by
  unfold put
  split
  · exact h
  rename_i h1
  split
  · exact h
  rename_i h2
  have hr : right w := Decidable.of_not_not h1
  obtain ⟨h3, h4⟩ := not_twice h2
  split
  · rename_i h5
    refine ⟨h.size, ?_, fun x hx => ?_, ins_sorted h.sorted h3, ins_one h.one h4⟩
    · show ((ins p.L w).length : Int) ≤ p.size
      rw [ins_len]
      omega
    · rcases ins_mem.1 hx with rfl | hx
      · exact hr
      · exact h.right x hx
  rename_i h5
  split
  · exact h
  · have hsz := h.size
    have hk : poorest p.L p.L.length < p.L.length := poorest_lt (by omega)
    have hsub := erase_sub p.L (poorest p.L p.L.length)
    have hlen : (p.L.eraseIdx (poorest p.L p.L.length)).length = p.L.length - 1 := by rw [List.length_eraseIdx, if_pos hk]
    have hf := h.fits
    refine ⟨h.size, ?_, fun x hx => ?_, ins_sorted (h.sorted.sublist hsub) (fun x hx => h3 x (hsub.subset hx)), ins_one (h.one.sublist hsub) (fun x hx => h4 x (hsub.subset hx))⟩
    · show ((ins (p.L.eraseIdx (poorest p.L p.L.length)) w).length : Int) ≤ p.size
      rw [ins_len, hlen]
      omega
    · rcases ins_mem.1 hx with rfl | hx
      · exact hr
      · exact h.right x (hsub.subset hx)
theorem good_old {p : Pool} (h : Good p) (now : Int) : Good (old p now).1 := by
  have hsub : List.Sublist (p.L.filter fun w => !isOld now w) p.L := List.filter_sublist
  refine ⟨h.size, ?_, fun x hx => h.right x (hsub.subset hx), h.sorted.sublist hsub, h.one.sublist hsub⟩
  have := hsub.length_le
  have hf := h.fits
  show ((p.L.filter fun w => !isOld now w).length : Int) ≤ p.size
  omega
theorem pick_lt {L : List Wait} {nx : List Int} {now : Int} : ∀ {i k : Nat}, pick L nx now i = some k → k < i ∧ ready nx now (L.getD k Wait.zero)
  | 0, k, h => by simp [pick] at h
  | i + 1, k, h => by
    unfold pick at h
    split at h
    · split at h
      · rename_i h1
        injection h with h
        subst h
        exact ⟨by omega, h1⟩
      · simp at h
    · rename_i j hj
      split at h
      · rename_i h1
        injection h with h
        subst h
        exact ⟨by omega, h1.1⟩
      · injection h with h
        subst h
        have := pick_lt hj
        exact ⟨by omega, this.2⟩
theorem raise_keeps (out w : Wait) : (raise out w).tx = w.tx ∧ (raise out w).index = w.index ∧ (raise out w).till = w.till := by
  unfold raise
  split <;> exact ⟨rfl, rfl, rfl⟩
theorem raise_right {out w : Wait} (ho : right out) (h : right w) : right (raise out w) := by
  unfold raise
  split
  · exact ⟨h.1, h.2.1, h.2.2.1, ho.2.2.2.1, ho.2.2.2.2⟩
  · exact h
theorem good_next {p : Pool} (h : Good p) (nx : List Int) (now : Int) : Good (next p nx now).1 := by
  unfold next
  split
  · exact h
  · rename_i k hk
    have hk := (pick_lt hk).1
    have hsub := erase_sub p.L k
    have hf := h.fits
    have hlen := hsub.length_le
    refine ⟨h.size, ?_, fun x hx => ?_, ?_, ?_⟩
    · show (((p.L.eraseIdx k).map _).length : Int) ≤ p.size
      rw [List.length_map]
      omega
    · obtain ⟨y, hy, rfl⟩ := List.mem_map.1 hx
      exact raise_right (h.right _ (mem_getD hk)) (h.right y (hsub.subset hy))
    · show ((p.L.eraseIdx k).map _).Pairwise _
      rw [List.pairwise_map]
      exact (h.sorted.sublist hsub).imp (fun {a b} e => by rw [(raise_keeps _ a).2.1, (raise_keeps _ b).2.1]; exact e)
    · show ((p.L.eraseIdx k).map _).Pairwise _
      rw [List.pairwise_map]
      exact (h.one.sublist hsub).imp (fun {a b} e => by rw [(raise_keeps _ a).1, (raise_keeps _ b).1]; exact e)
end Go.Pool

/- What a pool does over time, in plain Lean. -/
namespace Go.Pool
open Go.Txs (Tx within)
structure Come where
  tick : Bool
  tx : Tx
  delay : Int
  stay : Int
def Come.zero : Come := ⟨false, Tx.zero, 0, 0⟩
structure S where
  p : Pool
  nx : List Int
  now : Int
  put : Int
  out : List Wait
  gone : List Wait
def bump (nx : List Int) (w : Wait) : List Int := nx.set w.tx.src.toNat (nextOf nx w + 1)
def pop (s : S) : S × Bool :=
  if (next s.p s.nx s.now).2.2 = true then ({ s with p := (next s.p s.nx s.now).1, nx := bump s.nx (next s.p s.nx s.now).2.1, out := s.out ++ [(next s.p s.nx s.now).2.1] }, true) else (s, false)
def drain : Nat → S → S
  | 0, s => s
  | n + 1, s => if (pop s).2 = true then drain n (pop s).1 else s
def waitOf (c : Come) (i : Nat) (now : Int) : Wait := ⟨c.tx, (i : Int), now + c.stay, now + c.delay, (i : Int)⟩
def lay (s : S) (c : Come) (i : Nat) : S :=
  { s with p := (put s.p (waitOf c i s.now)).1, put := if (put s.p (waitOf c i s.now)).2.2.2 = 0 then s.put + 1 else s.put,
           gone := if (put s.p (waitOf c i s.now)).2.2.1 = true then s.gone ++ [(put s.p (waitOf c i s.now)).2.1] else s.gone }
def tick (s : S) : S := { s with now := s.now + 1, p := (old s.p (s.now + 1)).1, gone := s.gone ++ (old s.p (s.now + 1)).2 }
def come (n : Nat) (s : S) (c : Come) (i : Nat) : S := if c.tick = true then tick (drain (n + 1) s) else lay s c i
/-! ### Orders -/
/-- Out comes what is next, one after the other. -/
def runs : List Wait → List Int → List Int → Prop
  | [], nx, e => nx = e
  | w :: l, nx, e => w.tx.nonce = nextOf nx w ∧ runs l (bump nx w) e
structure O (i : Nat) (s : S) : Prop where
  good : Good s.p
  len : s.nx.length = 64
  low : 0 ≤ s.now ∧ s.now ≤ i
  pl : ∀ w ∈ s.p.L, w.place < (i : Int)
  ix : ∀ w ∈ s.p.L, w.index < (i : Int)
  ord : ∀ k, k + 1 < s.out.length → ¬ less (s.out.getD (k + 1) Wait.zero) (s.out.getD k Wait.zero)
  run : runs s.out (List.replicate 64 0) s.nx
  last : ∀ x, s.out.getLast? = some x → x.time ≤ s.now ∧ x.place < (i : Int) ∧ ∀ w ∈ s.p.L, w.tx.nonce = nextOf s.nx w → ¬ less w x
theorem src_ok {w : Wait} (h : right w) : 0 ≤ w.tx.src ∧ w.tx.src ≤ 63 := (Txs.check_is.1 h.1).1.1
theorem bump_len (nx : List Int) (w : Wait) : (bump nx w).length = nx.length := by simp [bump]
theorem next_no {p : Pool} {nx : List Int} {now : Int} (h : pick p.L nx now p.L.length = none) : next p nx now = (p, Wait.zero, false) := by unfold next; rw [h]
theorem next_yes {p : Pool} {nx : List Int} {now : Int} {k : Nat} (h : pick p.L nx now p.L.length = some k) : next p nx now = ({ p with L := (p.L.eraseIdx k).map (raise (p.L.getD k Wait.zero)) }, p.L.getD k Wait.zero, true) := by unfold next; rw [h]
theorem next_ok {p : Pool} {nx : List Int} {now : Int} (h : (next p nx now).2.2 = true) : ∃ k, pick p.L nx now p.L.length = some k := by
  cases hp : pick p.L nx now p.L.length with
  | none => rw [next_no hp] at h; simp at h
  | some k => exact ⟨k, rfl⟩
/-! ### Ends -/
def id' (w : Wait) : Int × Tx := (w.index, w.tx)
def ids (s : S) : List (Int × Tx) := s.out.map id' ++ (s.gone.map id' ++ s.p.L.map id')
structure E (l : List Come) (i : Nat) (s : S) : Prop where
  good : Good s.p
  put : s.put = ((ids s).length : Int)
  from_ : ∀ x ∈ ids s, ∃ k : Nat, k < i ∧ x.1 = (k : Int) ∧ x.2 = (l.getD k Come.zero).tx
  once : ((ids s).map Prod.fst).Nodup
end Go.Pool

/- The lane, in plain Lean. -/
namespace Go.Lane
open Go.Txs (Tx within)
structure Held where
  round : Int
  who : Int
  turn : Int
structure Lane where
  length : Int
  L : List Held
def roundOf (length now : Int) : Int := if now < 0 then 0 else now / length
def isAt (round : Int) (x : Held) : Bool := decide (x.round = round)
def look (L : List Held) (round : Int) : Option Held := L.find? (isAt round)
/-- A round's place. -/
def place (L : List Held) (round : Int) : Option Nat := L.findIdx? (isAt round)
def put (L : List Held) (round : Int) (x : Held) : List Held :=
  match place L round with
  | some i => L.set i x
  | none => L
def set (l : Lane) (round who : Int) : Lane × Int :=
  if round < 0 then (l, 2) else if ¬ within who 63 then (l, 20) else if (look l.L round).isSome = true then (l, 23) else ({ l with L := l.L ++ [⟨round, who, 0⟩] }, 0)
def give (l : Lane) (round src dst now : Int) : Lane × Int :=
  if ¬ within src 63 ∨ ¬ within dst 63 then (l, 20) else
  match look l.L round with
  | none => (l, 34)
  | some x => if x.who ≠ src then (l, 21) else if round < roundOf l.length now then (l, 26) else ({ l with L := put l.L round ⟨round, dst, x.turn⟩ }, 0)
def check (l : Lane) (t : Tx) (now : Int) : Int :=
  if Txs.check t ≠ 0 then Txs.check t else if t.lane = false then 2 else if t.round ≠ roundOf l.length now then 29 else
  match look l.L t.round with
  | none => 34
  | some x => if (Seal.tag x.who 2 (Txs.body t).1).1 ≠ t.hand then 21 else if t.turn ≠ x.turn then 30 else 0
def take (l : Lane) (t : Tx) (now : Int) : Lane × Int :=
  if check l t now ≠ 0 then (l, check l t now) else
  match look l.L t.round with
  | none => (l, 0)
  | some x => ({ l with L := put l.L t.round ⟨t.round, x.who, x.turn + 1⟩ }, 0)
def turnOf (L : List Held) (round : Int) : Int := match look L round with
  | some x => x.turn
  | none => 0
/-! ### Looking -/
structure Good (l : Lane) : Prop where
  len : 1 ≤ l.length ∧ l.length ≤ 1099511627776
  at_ : ∀ r x, look l.L r = some x → x.round = r ∧ within x.who 63 ∧ 0 ≤ x.turn ∧ x.turn ≤ 1099511627777
theorem good_new {n : Int} (h : 1 ≤ n ∧ n ≤ 1099511627776) : Good ⟨n, []⟩ := ⟨h, fun _ _ h => by simp [look] at h⟩
/-! ### Rounds -/
end Go.Lane

/- The auction, in plain Lean. -/
namespace Go.Auction
open Go.Note
def name (b : Bid) : List UInt8 := Sha.sum (writeBid b).1 ++ (writeBid b).1
def has (funds : List Int) (b : Bid) : Int := if b.who < (funds.length : Int) then funds.getD b.who.toNat 0 else 0
def good (round floor : Int) (b : Bid) : Prop := checkBid b = 0 ∧ b.round = round ∧ floor ≤ b.amount
def fresh (out : List Bid) (b : Bid) : Prop := ∀ x ∈ out, x.who ≠ b.who
instance (round floor : Int) (b : Bid) : Decidable (good round floor b) := by unfold good; infer_instance
instance (out : List Bid) (b : Bid) : Decidable (fresh out b) := by unfold fresh; infer_instance
def step (funds : List Int) (round floor : Int) (out : List Bid) (b : Bid) : List Bid := if good round floor b ∧ fresh out b ∧ b.amount ≤ has funds b then out ++ [b] else out
def ahead (a b : Bid) : Bool := decide (b.amount < a.amount) || (decide (a.amount = b.amount) && Op.bytesLess (name a) (name b))
/-- The best of the first so many. -/
def best (l : List Bid) : Nat → Nat
  | 0 => 0
  | i + 1 => if i = 0 then 0 else if ahead (l.getD i Bid.zero) (l.getD (best l i) Bid.zero) = true then i else best l i
/-- The price, after so many, without one. -/
def price (l : List Bid) (k : Nat) (floor : Int) : Nat → Int
  | 0 => floor
  | i + 1 => if i = k then price l k floor i else max (price l k floor i) (l.getD i Bid.zero).amount
structure Win where
  bid : Bid
  price : Int
instance : DecidableEq Win := fun x y => decidable_of_iff (x.bid = y.bid ∧ x.price = y.price) (by cases x; cases y; simp)
def Win.zero : Win := ⟨Bid.zero, 0⟩
/-! ### Orders of texts -/
/-! ### The best -/
theorem best_yes {l : List Bid} {i : Nat} (h : 0 < i) (ha : ahead (l.getD i Bid.zero) (l.getD (best l i) Bid.zero) = true) : best l (i + 1) = i := by
  show (if i = 0 then 0 else if _ then i else best l i) = i
  rw [if_neg (by omega), if_pos ha]
theorem best_no {l : List Bid} {i : Nat} (h : 0 < i) (ha : ¬ ahead (l.getD i Bid.zero) (l.getD (best l i) Bid.zero) = true) : best l (i + 1) = best l i := by
  show (if i = 0 then 0 else if _ then i else best l i) = best l i
  rw [if_neg (by omega), if_neg ha]
/-! ### The price -/
/-! ### Those that count -/
theorem check_ok {b : Bid} (h : checkBid b = 0) : b.ok = true := by
  unfold checkBid at h
  split at h
  · assumption
  · omega
structure Fine (round floor : Int) (all : List Bid) : Prop where
  good : ∀ b ∈ all, Auction.good round floor b
  one : ∀ i j, i < all.length → j < all.length → (all.getD i Bid.zero).who = (all.getD j Bid.zero).who → i = j
/-! ### Who wins -/
/-! ### Books -/
structure Book where
  floor : Int
  L : List Bid
def Book.bids (b : Book) (round : Int) : List Bid := b.L.filter fun x => decide (x.round = round)
def bid (b : Book) (x : Bid) (now : Int) : Book × Int :=
  if checkBid x ≠ 0 then (b, checkBid x)
  else if x.round ≤ now then (b, 26)
  else if x.amount < b.floor then (b, 24)
  else if ¬ fresh (b.bids x.round) x then (b, 23)
  else if 32 ≤ (b.bids x.round).length then (b, 25)
  else ({ b with L := b.L ++ [x] }, 0)
end Go.Auction

/- Own words: what a function hands back out of a cell; lists of words; a table that lies in the first block. -/
set_option linter.unusedVariables false
set_option linter.unusedSimpArgs false
namespace Go.Sx
open Go.RowKit
variable {P : Program} {n : Nat} {S : List Nat} {w0 w : World} {ss : List (Nat × Value)} {l : List It} {o : Oper} {a : Act}

theorem run_cell {fn : Func} {t ty b z : Nat} {E : TypeId} {cs : List Value} (hr : fn.results = #[.cell t ty]) (H : St n S w0 ss l a w) (hv : find ss t = some (.pointer (some ⟨b, 0, none⟩))) (ht : aggB P ty = some true) (hz : sizeB P ty = some z) (hm : It.blk b E cs ∈ l) (hl : cs.length = z) :
    (results fn a.tmps).run P w = .ok (.agg cs.toArray) w := by
  have h1 : a.tmps[t]?.getD undef = .pointer (some ⟨b, 0, none⟩) := by simpa [Array.getD_eq_getD_getElem?] using getD_of H.fr hv
  have h2 : Rd w (some ⟨b, 0, none⟩) cs := by
    have := Rd.blk (blk_at hm H.sep) 0 cs.length
    simpa using this
  subst hl
  simp [results, hr, h1, loadVar, run_isAgg' ht, run_sizeOf' hz, h2.load, asAddr]
theorem retc {fn : Func} {R : Ending → World → Prop} {t ty b z : Nat} {E : TypeId} {cs : List Value} (hr : fn.results = #[.cell t ty]) (H : St n S w0 ss l a w) (hv : find ss t = some (.pointer (some ⟨b, 0, none⟩))) (ht : aggB P ty = some true) (hz : sizeB P ty = some z) (hm : It.blk b E cs ∈ l) (hl : cs.length = z)
    (h : R (.returned (.agg cs.toArray)) w) : bodyPost P fn R .ret a w :=
  bodyPost_ret (run_cell hr H hv ht hz hm hl) H.fr.df h

theorem take_all {cs : List Value} {z : Nat} (h : cs.length = z) : (cs.drop 0).take z = cs := by rw [List.drop_zero, List.take_of_length_le (by omega)]
theorem spl_all {cs vs : List Value} (h : vs.length = cs.length) : spl cs 0 vs = vs := by
  unfold spl
  rw [List.take_zero, List.nil_append, Nat.zero_add, List.drop_eq_nil_of_le (by omega), List.append_nil]
theorem one_u8 (L : List UInt8) : (L.map u8).all (·.oneCell') = true := by simp [Value.oneCell']
/-- The table in block g. -/
def Glob (g : Nat) (T : List (BitVec 32)) (w : World) : Prop := ∀ k, k < T.length → w.cell? ⟨g, k, none⟩ = some (u32 (T.getD k 0))
theorem Glob.frm {g : Nat} {T : List (BitVec 32)} {w0 w : World} {S : List Nat} (h : Glob g T w0) (F : Frm S w0 w) (hS : g ∉ S) : Glob g T w := fun k hk => by
  have h1 := h k hk
  rw [← h1]
  exact World.cell?_of_block (F.block _ (World.block_lt_of_cell? w0 _ h1) hS)
variable {ops : Array Oper} {Q : Exit → Act → World → Prop} {rest : List Oper}
end Go.Sx

/- Own words: arrays of bytes side by side. -/
set_option linter.unusedVariables false
set_option linter.unusedSimpArgs false
namespace Go.Sx
open Go.RowKit
variable {P : Program} {n : Nat} {S : List Nat} {w0 w : World} {ss : List (Nat × Value)} {l : List It} {o : Oper} {a : Act}
theorem u8_cell : u8 = Extern.Stop.cell := rfl
theorem y_hneq {t t' e : TypeId} {x y : Operand} {m : Nat} {p q : List UInt8} (ho : o.op = .binOp .neq t x y t') (hm : P.eqGuardType P.depth t = false) (ht : P.underlying t = some (.array m e)) (he : P.underlying e = some (.int .u8)) (hz : sizeB P e = some 1)
    (hx : evO ss x = some (.agg (p.map u8).toArray)) (hy : evO ss y = some (.agg (q.map u8).toArray)) (hp : p.length = m) (hq : q.length = m) : Yld P n S w0 ss l o (.bool (decide (p ≠ q))) := by
  intro a w F _
  have h0 := run_equalIn_bytes w 9998 t e m ht he (fun w => run_sizeOf' hz) p q hp hq
  have h1 : (binOp .neq t (.agg (p.map u8).toArray) (.agg (q.map u8).toArray)).run P w = .ok (.bool (decide (p ≠ q))) w := by
    rw [run_neq_struct, u8_cell, h0]
    simp [lbeq]
  have hg := fun op (x y : Operand) xs ys => run_eqGuard_agg (P := P) (w := w) op t x y xs ys hm
  simp [execOp, ho, F.ev hx, F.ev hy, hg, h1]
end Go.Sx

/- Own words: what a function hands back out of a cell and a slot. -/
set_option linter.unusedVariables false
set_option linter.unusedSimpArgs false
namespace Go.Sx
open Go.RowKit
variable {P : Program} {n : Nat} {S : List Nat} {w0 w : World} {ss : List (Nat × Value)} {l : List It} {o : Oper} {a : Act}
theorem run_cell_tmp {fn : Func} {t ty b z u : Nat} {E : TypeId} {cs : List Value} {v : Value} (hr : fn.results = #[.cell t ty, .tmp u]) (H : St n S w0 ss l a w) (hv : find ss t = some (.pointer (some ⟨b, 0, none⟩))) (ht : aggB P ty = some true) (hz : sizeB P ty = some z) (hm : It.blk b E cs ∈ l) (hl : cs.length = z) (hu : find ss u = some v) :
    (results fn a.tmps).run P w = .ok (.tuple #[.agg cs.toArray, v]) w := by
  have h1 : a.tmps[t]?.getD undef = .pointer (some ⟨b, 0, none⟩) := by simpa [Array.getD_eq_getD_getElem?] using getD_of H.fr hv
  have h3 : a.tmps[u]?.getD undef = v := by simpa [Array.getD_eq_getD_getElem?] using getD_of H.fr hu
  have h2 : Rd w (some ⟨b, 0, none⟩) cs := by
    have := Rd.blk (blk_at hm H.sep) 0 cs.length
    simpa using this
  subst hl
  simp [results, hr, h1, h3, loadVar, run_isAgg' ht, run_sizeOf' hz, h2.load, asAddr]
theorem retct {fn : Func} {R : Ending → World → Prop} {t ty b z u : Nat} {E : TypeId} {cs : List Value} {v : Value} (hr : fn.results = #[.cell t ty, .tmp u]) (H : St n S w0 ss l a w) (hv : find ss t = some (.pointer (some ⟨b, 0, none⟩))) (ht : aggB P ty = some true) (hz : sizeB P ty = some z) (hm : It.blk b E cs ∈ l) (hl : cs.length = z) (hu : find ss u = some v)
    (h : R (.returned (.tuple #[.agg cs.toArray, v])) w) : bodyPost P fn R .ret a w :=
  bodyPost_ret (run_cell_tmp hr H hv ht hz hm hl hu) H.fr.df h
end Go.Sx

/- Own words: a region that draws, with calls among reads: the reads taken as they come, under what stays. -/
set_option linter.unusedVariables false
set_option linter.unusedSimpArgs false
namespace Go.Sx
open Go.RowKit

variable {P : Program} {n : Nat} {S : List Nat} {w0 : World} {ss : List (Nat × Value)} {l ls : List It}
variable {rl : List Oper} {Q : Exit → Act → World → Prop} {o : Oper} {a : Act} {w : World} {fuel : Nat} {listed : Array Bool}

def HQ (P : Program) (rl : List Oper) (Q : Exit → Act → World → Prop) (T : World → Prop) (fuel : Nat) (listed : Array Bool) : Exit → Act → World → Prop :=
  fun e a w => e = .normal ∧ T w ∧ wpAnyH P .any rl.toArray (NoPanic Q) T fuel listed a w
theorem hreg {id : Nat} (ls : List It) (hs : ∀ w, Sep S w0 w l → Sep S w0 w ls) (hm : P.follows .mixedOrders = true) (H : St n S w0 ss l a w)
    (h : ∀ w', St n S w0 ss l a w' → wpAnyH P .any rl.toArray (NoPanic Q) (fun w => Sep S w0 w ls) rl.length (Array.replicate rl.length false) a w') : (Code.region id rl.toArray true).wp P Q a w :=
  wp_region_noPanic (wp_region_held hm (by
    have h1 := h _ ⟨H.fr, H.sep.drewN 1⟩
    have e : rl.toArray.size = rl.length := by simp
    rw [e]
    exact h1))
def takeB (rl : List Oper) (listed : Array Bool) (i : Nat) : Bool := Region.noSelect rl.toArray && Region.free .any rl.toArray listed i && (Region.ready .any rl.toArray listed).contains i
theorem htake (i : Nat) {d : Nat} {v : Value} (hi : rl[i]? = some o) (hB : takeB rl listed i = true) (hy : Yld P n S w0 ss ls o v) (hw : wantB rl.toArray ss o = some true) (hd : o.dst = some d) (hn : Nat.ble (d + 1) n = true) (hs : ∀ w, Sep S w0 w l → Sep S w0 w ls) (H : St n S w0 ss l a w)
    (K : ∀ a', St n S w0 ((d, v) :: ss) l a' w → wpAnyH P .any rl.toArray (NoPanic Q) (fun w => Sep S w0 w ls) fuel (listed.setIfInBounds i true) a' w) : wpAnyH P .any rl.toArray (NoPanic Q) (fun w => Sep S w0 w ls) (fuel + 1) listed a w := by
  simp only [takeB, Bool.and_eq_true] at hB
  refine wpAnyH_take (v := v) (by simpa using hi) hB.1.1 hB.1.2 hB.2 (fun c a w h => (h : False).elim) (.inl ⟨wanted_of H.fr hw, fun w' hs' => hy a w' H.fr hs'⟩) (hs _ H.sep) ?_
  rw [hd]
  exact K _ ⟨H.fr.put (Nat.lt_of_succ_le (Nat.le_of_ble_eq_true hn)) v, H.sep⟩
def onlyB (rl : List Oper) (listed : Array Bool) (i : Nat) : Bool := Region.ready .any rl.toArray listed == [i]
theorem hgo {T : World → Prop} (i : Nat) (hi : rl[i]? = some o) (hB : onlyB rl listed i = true) (h : wpList P rl.toArray (HQ P rl Q T fuel (listed.setIfInBounds i true)) [o] a w) : wpAnyH P .any rl.toArray (NoPanic Q) T (fuel + 1) listed a w := by
  have hB' : Region.ready .any rl.toArray listed = [i] := by simpa [onlyB] using hB
  refine wpAnyH_all hB' (by simp) fun j hj => ?_
  rw [List.mem_singleton.1 hj]
  unfold wpOp
  have hi' : rl.toArray[i]? = some o := by simpa using hi
  rw [hi']
  unfold wpList at h
  have hlo : ¬ LetsOut (HQ P rl Q T fuel (listed.setIfInBounds i true)) := by rintro ⟨a, w, h, _⟩; cases h
  show if _ then _ else _
  split
  · rename_i hw
    rw [if_pos hw] at h
    rcases h with h | ⟨_, h⟩
    · left
      unfold Oper.wp at h ⊢
      generalize (execOp a.eval o).run P w = r at h
      cases r with
      | ok nx w' =>
        cases nx <;> simp only [Oper.upon] at h ⊢
        case value v => exact h.2
        case skip => exact h.2
        case defer d => exact h.2
        case enter f args =>
          refine h.mono fun e w'' he => ?_
          cases e with
          | returned v => exact he.2
          | panicked c => cases he.1
          | outgrown => exact absurd he hlo
        case row r args => exact h.mono fun v w'' he => he.2
      | halt x w' =>
        cases x <;> simp only [Oper.upon] at h ⊢
        case panic v => cases h.1
    · exact absurd h hlo
  · rename_i hw
    rw [if_neg hw] at h
    exact h.2
theorem hfin {T : World → Prop} (hT : T w) (h : wpAnyH P .any rl.toArray (NoPanic Q) T fuel listed a w) : wpList P rl.toArray (HQ P rl Q T fuel listed) [] a w := ⟨rfl, hT, h⟩
def doneB (rl : List Oper) (listed : Array Bool) : Bool := (Region.ready .any rl.toArray listed).isEmpty
theorem hdone {T : World → Prop} (hB : doneB rl listed = true) (h : Q .normal a w) : wpAnyH P .any rl.toArray (NoPanic Q) T fuel listed a w :=
  wpAnyH_done (by simpa [doneB] using hB) (NoPanic.normal h) fuel
/-- Block b has n cells, of which the first are cs. -/
def It.pre (b : Nat) (E : TypeId) (n : Nat) (cs : List Value) : It where
  fp := [b]
  P := fun w => ∃ r, w.heap[b]? = some (.cells (cs ++ r).toArray E (0, 0)) ∧ (cs ++ r).length = n
  st := fun w w' h hp => by
    obtain ⟨r, h1, h2⟩ := hp
    exact ⟨r, (h b (by simp)).trans h1, h2⟩
  lt := fun w hp c hc => by
    obtain ⟨r, h1, h2⟩ := hp
    rw [List.mem_singleton.1 hc]
    exact (Array.getElem?_eq_some_iff.1 h1).1
end Go.Sx
