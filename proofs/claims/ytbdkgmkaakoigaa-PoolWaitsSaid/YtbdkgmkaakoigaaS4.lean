/- Part of a proof about given Go functions: contracts of functions, or plain laws. -/
import Derived.Test.YtbdkgmkaakoigaaS3
import Derived.Test.YtbdkgmkaakoigaaS1
import Derived.Test.YtbdkgmkaakoigaaS2
/- Bids, receipts, batches and items as bytes, in plain Lean. -/
namespace Go.Note
def okNum (n : Int) : Bool := decide (0 ≤ n ∧ n ≤ 1099511627776)
def nums (l : List Int) : Bool := l.all okNum
def num (n : Int) : List UInt8 := (Oct.number n).1
/-- A list that is all of a text. -/
def whole (s : List UInt8) : List (List UInt8) × Int := if (Oct.rdl s 0).2.2 ≠ 0 then ([], (Oct.rdl s 0).2.2) else if (Oct.rdl s 0).2.1 < s.length then ([], 6) else ((Oct.rdl s 0).1, 0)
/-- A number that is all of a text. -/
def wn (t : List UInt8) : Int × Int := if (Oct.rdn t 0).2.2 ≠ 0 then (0, (Oct.rdn t 0).2.2) else if (Oct.rdn t 0).2.1 < t.length then (0, 6) else ((Oct.rdn t 0).1, 0)
def okn (t : List UInt8) : Bool := decide ((wn t).2 = 0)
/-- The first k of some texts as numbers. -/
def first (L : List (List UInt8)) (k : Nat) : Option (List Int) := if L.length < k then none else if (L.take k).all okn then some ((L.take k).map fun t => (wn t).1) else none
/-- A list whose first k texts are numbers. -/
def fields (s : List UInt8) (k : Nat) : Option (List Int × List (List UInt8)) := if (whole s).2 ≠ 0 then none else (first (whole s).1 k).map fun ns => (ns, (whole s).1.drop k)
def Z : List UInt8 := List.replicate 32 0
structure Bid where
  round : Int
  who : Int
  amount : Int
  salt : Int
  tag : List UInt8
def Bid.zero : Bid := ⟨0, 0, 0, 0, Z⟩
def Bid.ok (b : Bid) : Bool := nums [b.round, b.who, b.amount, b.salt] && decide (b.who < 64)
def Bid.said (b : Bid) : List UInt8 := (Oct.list [num b.round, num b.who, num b.amount, num b.salt]).1
def writeBid (b : Bid) : List UInt8 × Int := if b.ok then Oct.list [num b.round, num b.who, num b.amount, num b.salt, b.tag] else ([], 2)
def signBid (b : Bid) : Bid × Int := if b.ok then ({ b with tag := (Seal.tag b.who 3 b.said).1 }, 0) else (Bid.zero, 2)
def checkBid (b : Bid) : Int := if b.ok then (if (Seal.tag b.who 3 b.said).1 = b.tag then 0 else 21) else 2
structure Receipt where
  index : Int
  kind : Int
  time : Int
  body : List UInt8
  prev : List UInt8
  hash : List UInt8
def Receipt.zero : Receipt := ⟨0, 0, 0, [], Z, Z⟩
def Receipt.ok (r : Receipt) : Bool := nums [r.index, r.time] && decide (r.kind = 1 ∨ r.kind = 2) && decide (r.body.length ≤ 656)
structure Part where
  delayed : Bool
  text : List UInt8
def Part.ok (p : Part) : Bool := if p.delayed then decide (p.text = []) else decide (p.text.length ≤ 656)
def Part.laid (p : Part) : List UInt8 := if p.delayed then [2] else 1 :: p.text
structure Batch where
  seq : Int
  first : Int
  before : Int
  parts : List Part
def Batch.zero : Batch := ⟨0, 0, 0, []⟩
/-- A part's text, read. -/
def part (t : List UInt8) : Option Part :=
  if t = [2] then some ⟨true, []⟩ else if t.getD 0 0 = 1 ∧ t ≠ [] ∧ t.length ≤ 657 then some ⟨false, t.drop 1⟩ else none
def parts (l : List (List UInt8)) : Option (List Part) := l.mapM part
structure Item where
  kind : Int
  who : Int
  n : Int
  text : List UInt8
def Item.zero : Item := ⟨0, 0, 0, []⟩
def Item.ok (i : Item) : Bool := nums [i.who, i.n] && decide (i.who ≤ 64) && decide (i.text.length ≤ 65472) && (if i.kind = 1 ∨ i.kind = 3 then decide (i.n = 0) else if i.kind = 2 then decide (i.who = 0) && decide (i.text = []) else false)
/-! ### Small laws for the walks -/
theorem nums_bad {l : List Int} {k : Nat} (h : k < l.length) (hx : ¬ (0 ≤ l.getD k 0 ∧ l.getD k 0 ≤ 1099511627776)) : nums l = false := by
  unfold nums
  rw [List.all_eq_false]
  refine ⟨l.getD k 0, ?_, by simp only [okNum, decide_eq_true_eq]; exact hx⟩
  rw [Oct.getD_eq 0 h]
  exact List.getElem_mem h
theorem take_all {α : Type} {f : α → Bool} {l : List α} {k : Nat} (d : α) (h : k < l.length) (ht : (l.take k).all f = true) (hx : f (l.getD k d) = true) : (l.take (k + 1)).all f = true := by
  rw [Oct.take_succ d h, List.all_append, ht, List.all_cons, hx]
  rfl
theorem nums_all {l : List Int} {k : Nat} (h : l.length ≤ k) (ht : (l.take k).all okNum = true) : nums l = true := by
  rw [List.take_of_length_le h] at ht
  exact ht
end Go.Note
namespace Go.Note
theorem Z_len : Z.length = 32 := rfl
end Go.Note
namespace Go.Note
end Go.Note
namespace Go.Note
theorem three {α : Type} {l : List α} (h : l.length = 3) : ∃ a b c, l = [a, b, c] := by
  match l, h with
  | [a, b, c], _ => exact ⟨a, b, c, rfl⟩
end Go.Note
namespace Go.Note
instance : DecidableEq Bid := fun x y => decidable_of_iff (x.round = y.round ∧ x.who = y.who ∧ x.amount = y.amount ∧ x.salt = y.salt ∧ x.tag = y.tag) (by cases x; cases y; simp)
instance : DecidableEq Receipt := fun x y => decidable_of_iff (x.index = y.index ∧ x.kind = y.kind ∧ x.time = y.time ∧ x.body = y.body ∧ x.prev = y.prev ∧ x.hash = y.hash) (by cases x; cases y; simp)
instance : DecidableEq Part := fun x y => decidable_of_iff (x.delayed = y.delayed ∧ x.text = y.text) (by cases x; cases y; simp)
instance : DecidableEq Item := fun x y => decidable_of_iff (x.kind = y.kind ∧ x.who = y.who ∧ x.n = y.n ∧ x.text = y.text) (by cases x; cases y; simp)
instance : DecidableEq Batch := fun x y => decidable_of_iff (x.seq = y.seq ∧ x.first = y.first ∧ x.before = y.before ∧ x.parts = y.parts) (by cases x; cases y; simp)
end Go.Note
namespace Go.Note
end Go.Note
namespace Go.Note
end Go.Note
namespace Go.Note
end Go.Note
namespace Go.Note
theorem Batch.same {x y : Batch} (h1 : x.seq = y.seq) (h2 : x.first = y.first) (h3 : x.before = y.before) (h4 : x.parts = y.parts) : x = y := by
  cases x
  cases y
  simp only at *
  subst h1 h2 h3 h4
  rfl
end Go.Note
namespace Go.Note
end Go.Note

/- What is written is read as it was, and back. -/
namespace Go.Note
theorem list_small {l : List (List UInt8)} (h1 : l.length ≤ 1024) (h2 : l.flatten.length ≤ 65536) : (Oct.list l).2 = 0 := by rw [Oct.list_ok (by omega) (by omega)]
theorem num_len {n : Int} (h1 : n ≤ 9223372036854775807) : (num n).length ≤ 9 := Oct.number_len h1
/-! ### What is read is written as it was -/
end Go.Note

/- What comes at any rate; small laws on what is read. -/
namespace Go.Note
def b0 : Bid := ⟨1, 2, 3, 0, Z⟩
end Go.Note

/- Transactions, in plain Lean. -/
namespace Go.Txs
open Go.Note (num Z Z_len list_small num_len)
structure Tx where
  src : Int
  nonce : Int
  fee : Int
  dst : Int
  data : List UInt8
  lane : Bool
  round : Int
  turn : Int
  hand : List UInt8
  tag : List UInt8
instance : DecidableEq Tx := fun x y => decidable_of_iff (x.src = y.src ∧ x.nonce = y.nonce ∧ x.fee = y.fee ∧ x.dst = y.dst ∧ x.data = y.data ∧ x.lane = y.lane ∧ x.round = y.round ∧ x.turn = y.turn ∧ x.hand = y.hand ∧ x.tag = y.tag) (by cases x; cases y; simp)
def Tx.zero : Tx := ⟨0, 0, 0, 0, [], false, 0, 0, Z, Z⟩
def within (n m : Int) : Prop := 0 ≤ n ∧ n ≤ m
instance (n m : Int) : Decidable (within n m) := by unfold within; infer_instance
def okWho (t : Tx) : Prop := within t.src 63 ∧ within t.dst 63
def okArg (t : Tx) : Prop := (within t.nonce 1099511627776 ∧ within t.fee 1099511627776) ∧ (t.lane = true → within t.round 1099511627776 ∧ within t.turn 1099511627776) ∧ (t.lane = false → t.round = 0 ∧ t.turn = 0 ∧ t.hand = Z)
instance (t : Tx) : Decidable (okWho t) := by unfold okWho; infer_instance
instance (t : Tx) : Decidable (okArg t) := by unfold okArg; infer_instance
def check (t : Tx) : Int := if ¬ okWho t then 20 else if ¬ okArg t then 2 else if 256 < t.data.length then 3 else 0
def fields (t : Tx) : List (List UInt8) := [num t.src, num t.nonce, num t.fee, num t.dst, t.data] ++ (if t.lane = true then [num t.round, num t.turn] else [])
def body (t : Tx) : List UInt8 × Int := if check t ≠ 0 then ([], check t) else Oct.list (fields t)
def hand (t : Tx) (who : Int) : Tx × Int :=
  if (body t).2 ≠ 0 then (Tx.zero, (body t).2) else if ¬ within who 63 then (Tx.zero, 20) else if t.lane = false then (Tx.zero, 2) else ({ t with hand := (Seal.tag who 2 (body t).1).1 }, 0)
theorem check_who {t : Tx} (h : ¬ okWho t) : check t = 20 := by unfold check; rw [if_pos h]
theorem check_arg {t : Tx} (h : okWho t) (h1 : ¬ okArg t) : check t = 2 := by unfold check; rw [if_neg (fun x => x h), if_pos h1]
theorem check_big {t : Tx} (h : okWho t) (h1 : okArg t) (h2 : 256 < t.data.length) : check t = 3 := by unfold check; rw [if_neg (fun x => x h), if_neg (fun x => x h1), if_pos h2]
theorem check_ok {t : Tx} (h : okWho t) (h1 : okArg t) (h2 : ¬ 256 < t.data.length) : check t = 0 := by unfold check; rw [if_neg (fun x => x h), if_neg (fun x => x h1), if_neg h2]
theorem check_is {t : Tx} : check t = 0 ↔ okWho t ∧ okArg t ∧ t.data.length ≤ 256 := by
  by_cases h : okWho t
  · by_cases h1 : okArg t
    · by_cases h2 : 256 < t.data.length
      · rw [check_big h h1 h2]
        exact ⟨fun x => by simp at x, fun x => by omega⟩
      · rw [check_ok h h1 h2]
        exact ⟨fun _ => ⟨h, h1, by omega⟩, fun _ => rfl⟩
    · rw [check_arg h h1]
      exact ⟨fun x => by simp at x, fun x => absurd x.2.1 h1⟩
  · rw [check_who h]
    exact ⟨fun x => by simp at x, fun x => absurd x.1 h⟩
end Go.Txs

/- The inbox's messages and calls, in plain Lean. -/
namespace Go.Inbox
open Go.Note
structure Block where
  number : Int
  salt : Int
  parent : List UInt8
  items : List Note.Item
structure Entry where
  who : Int
  text : List UInt8
  block : Int
  acc : List UInt8
instance : DecidableEq Entry := fun x y => decidable_of_iff (x.who = y.who ∧ x.text = y.text ∧ x.block = y.block ∧ x.acc = y.acc) (by cases x; cases y; simp)
def Entry.zero : Entry := ⟨0, [], 0, Z⟩
/-- A message, as an item. -/
def isMsg (i : Note.Item) : Bool := i.ok && decide (i.kind = 1) && decide (i.text.length ≤ 640)
def next (acc : List UInt8) (who : Int) (text : List UInt8) : List UInt8 := Sha.sum (acc ++ (Oct.list [num who, text]).1)
/-- Messages of items: what stands for all, and the entries. -/
def step (block : Int) (s : List UInt8 × List Entry) (i : Note.Item) : List UInt8 × List Entry := if isMsg i then (next s.1 i.who i.text, s.2 ++ [⟨i.who, i.text, block, next s.1 i.who i.text⟩]) else s
def blockStep (s : List UInt8 × List Entry) (b : Block) : List UInt8 × List Entry := b.items.foldl (step b.number) s
def run (s : List UInt8 × List Entry) (l : List Block) : List UInt8 × List Entry := l.foldl blockStep s
def messages (l : List Block) : List Entry := (run (Z, []) l).2
/-! ### Laws -/
/-! ### Reach -/
end Go.Inbox

/- The pool, in plain Lean. -/
namespace Go.Pool
open Go.Txs (Tx within)
structure Wait where
  tx : Tx
  index : Int
  till : Int
  time : Int
  place : Int
instance : DecidableEq Wait := fun x y => decidable_of_iff (x.tx = y.tx ∧ x.index = y.index ∧ x.till = y.till ∧ x.time = y.time ∧ x.place = y.place) (by cases x; cases y; simp)
def Wait.zero : Wait := ⟨Tx.zero, 0, 0, 0, 0⟩
def less (a b : Wait) : Prop := a.time < b.time ∨ a.time = b.time ∧ a.place < b.place
instance (a b : Wait) : Decidable (less a b) := by unfold less; infer_instance
def meets (x w : Wait) : Prop := x.index = w.index ∨ x.tx.src = w.tx.src ∧ x.tx.nonce = w.tx.nonce
instance (a b : Wait) : Decidable (meets a b) := by unfold meets; infer_instance
def twice (L : List Wait) (w : Wait) : Prop := ∃ x ∈ L, meets x w
instance (L : List Wait) (w : Wait) : Decidable (twice L w) := by unfold twice; infer_instance
def right (w : Wait) : Prop := Txs.check w.tx = 0 ∧ within w.index 1099511627776 ∧ within w.till 1099511627776 ∧ within w.time 1099511627776 ∧ within w.place 1099511627776
instance (w : Wait) : Decidable (right w) := by unfold right; infer_instance
/-- The poorest of the first so many. -/
def poorest (L : List Wait) : Nat → Nat
  | 0 => 0
  | i + 1 => if (L.getD i Wait.zero).tx.fee ≤ (L.getD (poorest L i) Wait.zero).tx.fee then i else poorest L i
def behind (w : Wait) (x : Wait) : Bool := decide (¬ w.index < x.index)
def pos (L : List Wait) (w : Wait) : Nat := (L.takeWhile (behind w)).length
def ins (L : List Wait) (w : Wait) : List Wait := L.take (pos L w) ++ w :: L.drop (pos L w)
structure Pool where
  size : Int
  L : List Wait
def put (p : Pool) (w : Wait) : Pool × Wait × Bool × Int :=
  if ¬ right w then (p, Wait.zero, false, 2)
  else if twice p.L w then (p, Wait.zero, false, 23)
  else if (p.L.length : Int) < p.size then ({ p with L := ins p.L w }, Wait.zero, false, 0)
  else if w.tx.fee ≤ (p.L.getD (poorest p.L p.L.length) Wait.zero).tx.fee then (p, Wait.zero, false, 25)
  else ({ p with L := ins (p.L.eraseIdx (poorest p.L p.L.length)) w }, p.L.getD (poorest p.L p.L.length) Wait.zero, true, 0)
def isOld (now : Int) (w : Wait) : Bool := decide (w.till < now)
def old (p : Pool) (now : Int) : Pool × List Wait := ({ p with L := p.L.filter fun w => !isOld now w }, p.L.filter (isOld now))
def nextOf (nx : List Int) (w : Wait) : Int := nx.getD w.tx.src.toNat 0
def ready (nx : List Int) (now : Int) (w : Wait) : Prop := w.time ≤ now ∧ w.tx.nonce = nextOf nx w
instance (nx : List Int) (now : Int) (w : Wait) : Decidable (ready nx now w) := by unfold ready; infer_instance
/-- What is ready and first among the first so many. -/
def pick (L : List Wait) (nx : List Int) (now : Int) : Nat → Option Nat
  | 0 => none
  | i + 1 => match pick L nx now i with
    | none => if ready nx now (L.getD i Wait.zero) then some i else none
    | some k => if ready nx now (L.getD i Wait.zero) ∧ less (L.getD i Wait.zero) (L.getD k Wait.zero) then some i else some k
def follows (out w : Wait) : Prop := w.tx.src = out.tx.src ∧ w.tx.nonce = out.tx.nonce + 1 ∧ less w out
instance (a b : Wait) : Decidable (follows a b) := by unfold follows; infer_instance
def raise (out w : Wait) : Wait := if follows out w then { w with time := out.time, place := out.place } else w
def next (p : Pool) (nx : List Int) (now : Int) : Pool × Wait × Bool :=
  match pick p.L nx now p.L.length with
  | none => (p, Wait.zero, false)
  | some k => ({ p with L := (p.L.eraseIdx k).map (raise (p.L.getD k Wait.zero)) }, p.L.getD k Wait.zero, true)
/-! ### What a good pool is -/
structure Good (p : Pool) : Prop where
  size : 1 ≤ p.size ∧ p.size ≤ 256
  fits : (p.L.length : Int) ≤ p.size
  right : ∀ w ∈ p.L, Pool.right w
  sorted : p.L.Pairwise fun a b => a.index < b.index
  one : p.L.Pairwise fun a b => ¬ (a.tx.src = b.tx.src ∧ a.tx.nonce = b.tx.nonce)
theorem good_new {n : Int} (h : 1 ≤ n ∧ n ≤ 256) : Good ⟨n, []⟩ := ⟨h, by simp; omega, by simp, .nil, .nil⟩
theorem mem_getD {L : List Wait} {k : Nat} (h : k < L.length) : L.getD k Wait.zero ∈ L := by
  rw [List.getD_eq_getElem?_getD, List.getElem?_eq_getElem h]
  exact List.getElem_mem h
theorem getD_el {L : List Wait} {k : Nat} (h : k < L.length) : L.getD k Wait.zero = L[k] := by
  rw [List.getD_eq_getElem?_getD, List.getElem?_eq_getElem h]
  rfl
theorem sorted_lt {L : List Wait} (hs : L.Pairwise fun a b => a.index < b.index) {i j : Nat} (h : i < j) (hj : j < L.length) : (L.getD i Wait.zero).index < (L.getD j Wait.zero).index := by
  rw [getD_el hj, getD_el (by omega)]
  exact List.pairwise_iff_getElem.1 hs i j (by omega) hj h
/-- Where one belongs. -/
theorem pos_le (L : List Wait) (w : Wait) : pos L w ≤ L.length := List.Sublist.length_le (List.takeWhile_sublist _)
theorem pos_below : ∀ {L : List Wait} {w : Wait} {i : Nat}, i < pos L w → ¬ w.index < (L.getD i Wait.zero).index
  | [], w, i, h => absurd h (by simp [pos])
  | x :: L, w, i, h => by
    unfold pos at h
    rw [List.takeWhile_cons] at h
    cases hx : behind w x with
    | false => rw [hx] at h; exact absurd h (by simp)
    | true =>
      rw [hx] at h
      cases i with
      | zero => exact of_decide_eq_true hx
      | succ i => exact pos_below (L := L) (by unfold pos; simpa using h)
theorem pos_at : ∀ {L : List Wait} {w : Wait}, pos L w < L.length → w.index < (L.getD (pos L w) Wait.zero).index
  | [], w, h => absurd h (by simp)
  | x :: L, w, h => by
    unfold pos at h ⊢
    rw [List.takeWhile_cons] at h ⊢
    cases hx : behind w x with
    | false => exact Decidable.of_not_not (of_decide_eq_false hx)
    | true =>
      rw [hx] at h
      exact pos_at (L := L) (by unfold pos; simpa using h)
theorem pos_eq {L : List Wait} {w : Wait} {k : Nat} (hk : k ≤ L.length) (h1 : ∀ i, i < k → ¬ w.index < (L.getD i Wait.zero).index) (h2 : k < L.length → w.index < (L.getD k Wait.zero).index) : pos L w = k := by
  have hl := pos_le L w
  rcases Nat.lt_trichotomy (pos L w) k with h | h | h
  · exact absurd (pos_at (by omega)) (h1 _ h)
  · exact h
  · exact absurd (h2 (by omega)) (pos_below h)
theorem getD_erase {L : List Wait} {k i : Nat} : (L.eraseIdx k).getD i Wait.zero = if i < k then L.getD i Wait.zero else L.getD (i + 1) Wait.zero := by
  rw [List.getD_eq_getElem?_getD, List.getElem?_eraseIdx]
  split <;> rw [List.getD_eq_getElem?_getD]
theorem pos_erase {L : List Wait} {w : Wait} {k : Nat} (hs : L.Pairwise fun a b => a.index < b.index) (hk : k < L.length) : pos (L.eraseIdx k) w = if k < pos L w then pos L w - 1 else pos L w := by
  have hl := pos_le L w
  have hlen : (L.eraseIdx k).length = L.length - 1 := by rw [List.length_eraseIdx, if_pos hk]
  split
  · rename_i h
    refine pos_eq (by omega) (fun i hi => ?_) (fun hi => ?_)
    · rw [getD_erase]
      split
      · exact pos_below (by omega)
      · exact pos_below (by omega)
    · rw [getD_erase, if_neg (by omega), show pos L w - 1 + 1 = pos L w by omega]
      exact pos_at (by omega)
  · rename_i h
    refine pos_eq (by omega) (fun i hi => ?_) (fun hi => ?_)
    · rw [getD_erase, if_pos (by omega)]
      exact pos_below (by omega)
    · rw [getD_erase]
      have hp : w.index < (L.getD (pos L w) Wait.zero).index := pos_at (by omega)
      split
      · exact hp
      · exact Int.lt_trans hp (sorted_lt hs (by omega) (by omega))
theorem poorest_lt {L : List Wait} : ∀ {i : Nat}, 0 < i → poorest L i < i
  | 0, h => absurd h (by omega)
  | i + 1, _ => by
    unfold poorest
    split
    · omega
    · by_cases h0 : i = 0
      · subst h0
        rename_i h
        exact absurd (Int.le_refl _) h
      · have := poorest_lt (L := L) (i := i) (by omega)
        omega
theorem erase_sub (L : List Wait) (k : Nat) : List.Sublist (L.eraseIdx k) L := List.eraseIdx_sublist _ _
theorem ins_mem {L : List Wait} {w x : Wait} : x ∈ ins L w ↔ x = w ∨ x ∈ L := by
  unfold ins
  rw [List.mem_append, List.mem_cons]
  constructor
  · rintro (h | h | h)
    · exact .inr (List.mem_of_mem_take h)
    · exact .inl h
    · exact .inr (List.mem_of_mem_drop h)
  · rintro (h | h)
    · exact .inr (.inl h)
    · rw [← List.take_append_drop (pos L w) L, List.mem_append] at h
      rcases h with h | h
      · exact .inl h
      · exact .inr (.inr h)
theorem ins_len (L : List Wait) (w : Wait) : (ins L w).length = L.length + 1 := by
  have := pos_le L w
  unfold ins
  simp only [List.length_append, List.length_take, List.length_cons, List.length_drop]
  omega
theorem ins_sorted {L : List Wait} {w : Wait} (hs : L.Pairwise fun a b => a.index < b.index) (hn : ∀ x ∈ L, x.index ≠ w.index) : (ins L w).Pairwise fun a b => a.index < b.index := by
  have hp := pos_le L w
  unfold ins
  rw [List.pairwise_append]
  have hlow : ∀ x ∈ L.take (pos L w), x.index < w.index := by
    intro x hx
    obtain ⟨i, hi, rfl⟩ := List.getElem_of_mem hx
    rw [List.length_take] at hi
    rw [List.getElem_take, ← getD_el (by omega)]
    have h1 := pos_below (L := L) (w := w) (i := i) (by omega)
    have h2 := hn _ (mem_getD (L := L) (k := i) (by omega))
    omega
  have hup : ∀ x ∈ L.drop (pos L w), w.index < x.index := by
    intro x hx
    obtain ⟨i, hi, rfl⟩ := List.getElem_of_mem hx
    rw [List.length_drop] at hi
    rw [List.getElem_drop, ← getD_el (by omega)]
    have h1 := pos_at (L := L) (w := w) (by omega)
    by_cases h0 : i = 0
    · subst h0; exact h1
    · have := sorted_lt hs (show pos L w < pos L w + i by omega) (by omega)
      omega
  refine ⟨hs.sublist (List.take_sublist _ _), ?_, fun a ha b hb => ?_⟩
  · rw [List.pairwise_cons]
    exact ⟨hup, hs.sublist (List.drop_sublist _ _)⟩
  · rcases List.mem_cons.1 hb with rfl | hb
    · exact hlow a ha
    · have := hlow a ha
      have := hup b hb
      omega
theorem ins_one {L : List Wait} {w : Wait} (hs : L.Pairwise fun a b => ¬ (a.tx.src = b.tx.src ∧ a.tx.nonce = b.tx.nonce)) (hn : ∀ x ∈ L, ¬ (x.tx.src = w.tx.src ∧ x.tx.nonce = w.tx.nonce)) : (ins L w).Pairwise fun a b => ¬ (a.tx.src = b.tx.src ∧ a.tx.nonce = b.tx.nonce) := by
  unfold ins
  rw [List.pairwise_append]
  rw [← List.take_append_drop (pos L w) L, List.pairwise_append] at hs
  refine ⟨hs.1, ?_, fun a ha b hb => ?_⟩
  · rw [List.pairwise_cons]
    exact ⟨fun x hx e => hn x (List.mem_of_mem_drop hx) ⟨e.1.symm, e.2.symm⟩, hs.2.1⟩
  · rcases List.mem_cons.1 hb with rfl | hb
    · exact hn a (List.mem_of_mem_take ha)
    · exact hs.2.2 a ha b hb
theorem not_twice {L : List Wait} {w : Wait} (h : ¬ twice L w) : (∀ x ∈ L, x.index ≠ w.index) ∧ ∀ x ∈ L, ¬ (x.tx.src = w.tx.src ∧ x.tx.nonce = w.tx.nonce) :=
  ⟨fun x hx e => h ⟨x, hx, .inl e⟩, fun x hx e => h ⟨x, hx, .inr e⟩⟩
theorem good_put {p : Pool} (h : Good p) (w : Wait) : Good (put p w).1 := by
  unfold put
  split
  · exact h
  rename_i h1
  split
  · exact h
  rename_i h2
  have hr : right w := Decidable.of_not_not h1
  obtain ⟨h3, h4⟩ := not_twice h2
  split
  · rename_i h5
    refine ⟨h.size, ?_, fun x hx => ?_, ins_sorted h.sorted h3, ins_one h.one h4⟩
    · show ((ins p.L w).length : Int) ≤ p.size
      rw [ins_len]
      omega
    · rcases ins_mem.1 hx with rfl | hx
      · exact hr
      · exact h.right x hx
  rename_i h5
  split
  · exact h
  · have hsz := h.size
    have hk : poorest p.L p.L.length < p.L.length := poorest_lt (by omega)
    have hsub := erase_sub p.L (poorest p.L p.L.length)
    have hlen : (p.L.eraseIdx (poorest p.L p.L.length)).length = p.L.length - 1 := by rw [List.length_eraseIdx, if_pos hk]
    have hf := h.fits
    refine ⟨h.size, ?_, fun x hx => ?_, ins_sorted (h.sorted.sublist hsub) (fun x hx => h3 x (hsub.subset hx)), ins_one (h.one.sublist hsub) (fun x hx => h4 x (hsub.subset hx))⟩
    · show ((ins (p.L.eraseIdx (poorest p.L p.L.length)) w).length : Int) ≤ p.size
      rw [ins_len, hlen]
      omega
    · rcases ins_mem.1 hx with rfl | hx
      · exact hr
      · exact h.right x (hsub.subset hx)
theorem good_old {p : Pool} (h : Good p) (now : Int) : Good (old p now).1 := by
  have hsub : List.Sublist (p.L.filter fun w => !isOld now w) p.L := List.filter_sublist
  refine ⟨h.size, ?_, fun x hx => h.right x (hsub.subset hx), h.sorted.sublist hsub, h.one.sublist hsub⟩
  have := hsub.length_le
  have hf := h.fits
  show ((p.L.filter fun w => !isOld now w).length : Int) ≤ p.size
  omega
theorem pick_lt {L : List Wait} {nx : List Int} {now : Int} : ∀ {i k : Nat}, pick L nx now i = some k → k < i ∧ ready nx now (L.getD k Wait.zero)
  | 0, k, h => by simp [pick] at h
  | i + 1, k, h => by
    unfold pick at h
    split at h
    · split at h
      · rename_i h1
        injection h with h
        subst h
        exact ⟨by omega, h1⟩
      · simp at h
    · rename_i j hj
      split at h
      · rename_i h1
        injection h with h
        subst h
        exact ⟨by omega, h1.1⟩
      · injection h with h
        subst h
        have := pick_lt hj
        exact ⟨by omega, this.2⟩
theorem pick_none {L : List Wait} {nx : List Int} {now : Int} : ∀ {i : Nat}, pick L nx now i = none → ∀ j, j < i → ¬ ready nx now (L.getD j Wait.zero)
  | 0, _, j, hj => absurd hj (by omega)
  | i + 1, h, j, hj => by
    unfold pick at h
    split at h
    · rename_i h0
      split at h
      · simp at h
      · rename_i h1
        by_cases e : j = i
        · subst e; exact h1
        · exact pick_none h0 j (by omega)
    · split at h <;> simp at h
theorem pick_min {L : List Wait} {nx : List Int} {now : Int} : ∀ {i k : Nat}, pick L nx now i = some k → ∀ j, j < i → ready nx now (L.getD j Wait.zero) → ¬ less (L.getD j Wait.zero) (L.getD k Wait.zero)
  | 0, k, h, j, hj, _ => absurd hj (by omega)
  | i + 1, k, h, j, hj, hr => by
    unfold pick at h
    split at h
    · rename_i h0
      split at h
      · injection h with h
        subst h
        by_cases e : j = i
        · subst e; unfold less; omega
        · exact absurd hr (pick_none h0 j (by omega))
      · simp at h
    · rename_i m hm
      split at h
      · rename_i h1
        injection h with h
        subst h
        by_cases e : j = i
        · subst e; unfold less; omega
        · have := pick_min hm j (by omega) hr
          have h2 := h1.2
          unfold less at *
          omega
      · rename_i h1
        injection h with h
        subst h
        by_cases e : j = i
        · subst e
          exact fun x => h1 ⟨hr, x⟩
        · exact pick_min hm j (by omega) hr
theorem raise_keeps (out w : Wait) : (raise out w).tx = w.tx ∧ (raise out w).index = w.index ∧ (raise out w).till = w.till := by
  unfold raise
  split <;> exact ⟨rfl, rfl, rfl⟩
theorem raise_right {out w : Wait} (ho : right out) (h : right w) : right (raise out w) := by
  unfold raise
  split
  · exact ⟨h.1, h.2.1, h.2.2.1, ho.2.2.2.1, ho.2.2.2.2⟩
  · exact h
theorem good_next {p : Pool} (h : Good p) (nx : List Int) (now : Int) : Good (next p nx now).1 := by
  unfold next
  split
  · exact h
  · rename_i k hk
    have hk := (pick_lt hk).1
    have hsub := erase_sub p.L k
    have hf := h.fits
    have hlen := hsub.length_le
    refine ⟨h.size, ?_, fun x hx => ?_, ?_, ?_⟩
    · show (((p.L.eraseIdx k).map _).length : Int) ≤ p.size
      rw [List.length_map]
      omega
    · obtain ⟨y, hy, rfl⟩ := List.mem_map.1 hx
      exact raise_right (h.right _ (mem_getD hk)) (h.right y (hsub.subset hy))
    · show ((p.L.eraseIdx k).map _).Pairwise _
      rw [List.pairwise_map]
      exact (h.sorted.sublist hsub).imp (fun {a b} e => by rw [(raise_keeps _ a).2.1, (raise_keeps _ b).2.1]; exact e)
    · show ((p.L.eraseIdx k).map _).Pairwise _
      rw [List.pairwise_map]
      exact (h.one.sublist hsub).imp (fun {a b} e => by rw [(raise_keeps _ a).1, (raise_keeps _ b).1]; exact e)
end Go.Pool

/- What a pool does over time, in plain Lean. -/
namespace Go.Pool
open Go.Txs (Tx within)
structure Come where
  tick : Bool
  tx : Tx
  delay : Int
  stay : Int
def Come.zero : Come := ⟨false, Tx.zero, 0, 0⟩
structure S where
  p : Pool
  nx : List Int
  now : Int
  put : Int
  out : List Wait
  gone : List Wait
def bump (nx : List Int) (w : Wait) : List Int := nx.set w.tx.src.toNat (nextOf nx w + 1)
def pop (s : S) : S × Bool :=
  if (next s.p s.nx s.now).2.2 = true then ({ s with p := (next s.p s.nx s.now).1, nx := bump s.nx (next s.p s.nx s.now).2.1, out := s.out ++ [(next s.p s.nx s.now).2.1] }, true) else (s, false)
def drain : Nat → S → S
  | 0, s => s
  | n + 1, s => if (pop s).2 = true then drain n (pop s).1 else s
def waitOf (c : Come) (i : Nat) (now : Int) : Wait := ⟨c.tx, (i : Int), now + c.stay, now + c.delay, (i : Int)⟩
def lay (s : S) (c : Come) (i : Nat) : S :=
  { s with p := (put s.p (waitOf c i s.now)).1, put := if (put s.p (waitOf c i s.now)).2.2.2 = 0 then s.put + 1 else s.put,
           gone := if (put s.p (waitOf c i s.now)).2.2.1 = true then s.gone ++ [(put s.p (waitOf c i s.now)).2.1] else s.gone }
def tick (s : S) : S := { s with now := s.now + 1, p := (old s.p (s.now + 1)).1, gone := s.gone ++ (old s.p (s.now + 1)).2 }
def come (n : Nat) (s : S) (c : Come) (i : Nat) : S := if c.tick = true then tick (drain (n + 1) s) else lay s c i
def start (size : Int) : S := ⟨⟨size, []⟩, List.replicate 64 0, 0, 0, [], []⟩
def play (size : Int) (l : List Come) : Nat → S
  | 0 => start size
  | i + 1 => come l.length (play size l i) (l.getD i Come.zero) i
/-! ### Orders -/
/-- Out comes what is next, one after the other. -/
def runs : List Wait → List Int → List Int → Prop
  | [], nx, e => nx = e
  | w :: l, nx, e => w.tx.nonce = nextOf nx w ∧ runs l (bump nx w) e
theorem runs_snoc : ∀ (l : List Wait) (a e : List Int) (w : Wait), runs l a e → w.tx.nonce = nextOf e w → runs (l ++ [w]) a (bump e w)
  | [], a, e, w, h, hw => by
    have h : a = e := h
    subst h
    exact ⟨hw, rfl⟩
  | x :: l, a, e, w, h, hw => ⟨h.1, runs_snoc l _ e w h.2 hw⟩
structure O (i : Nat) (s : S) : Prop where
  good : Good s.p
  len : s.nx.length = 64
  low : 0 ≤ s.now ∧ s.now ≤ i
  pl : ∀ w ∈ s.p.L, w.place < (i : Int)
  ix : ∀ w ∈ s.p.L, w.index < (i : Int)
  ord : ∀ k, k + 1 < s.out.length → ¬ less (s.out.getD (k + 1) Wait.zero) (s.out.getD k Wait.zero)
  run : runs s.out (List.replicate 64 0) s.nx
  last : ∀ x, s.out.getLast? = some x → x.time ≤ s.now ∧ x.place < (i : Int) ∧ ∀ w ∈ s.p.L, w.tx.nonce = nextOf s.nx w → ¬ less w x
theorem src_ok {w : Wait} (h : right w) : 0 ≤ w.tx.src ∧ w.tx.src ≤ 63 := (Txs.check_is.1 h.1).1.1
theorem bump_len (nx : List Int) (w : Wait) : (bump nx w).length = nx.length := by simp [bump]
theorem bump_at {nx : List Int} {w x : Wait} (hl : nx.length = 64) (hw : right w) (hx : right x) : nextOf (bump nx w) x = if x.tx.src = w.tx.src then nextOf nx w + 1 else nextOf nx x := by
  have h1 := src_ok hw
  have h2 := src_ok hx
  unfold bump
  unfold nextOf
  by_cases e : x.tx.src = w.tx.src
  · rw [if_pos e, e, List.getD_eq_getElem?_getD, List.getElem?_set_self (by omega)]
    rfl
  · rw [if_neg e, List.getD_eq_getElem?_getD, List.getElem?_set_ne (by omega), ← List.getD_eq_getElem?_getD]
theorem next_no {p : Pool} {nx : List Int} {now : Int} (h : pick p.L nx now p.L.length = none) : next p nx now = (p, Wait.zero, false) := by unfold next; rw [h]
theorem next_yes {p : Pool} {nx : List Int} {now : Int} {k : Nat} (h : pick p.L nx now p.L.length = some k) : next p nx now = ({ p with L := (p.L.eraseIdx k).map (raise (p.L.getD k Wait.zero)) }, p.L.getD k Wait.zero, true) := by unfold next; rw [h]
theorem next_ok {p : Pool} {nx : List Int} {now : Int} (h : (next p nx now).2.2 = true) : ∃ k, pick p.L nx now p.L.length = some k := by
  cases hp : pick p.L nx now p.L.length with
  | none => rw [next_no hp] at h; simp at h
  | some k => exact ⟨k, rfl⟩
theorem erase_ne {L : List Wait} {k : Nat} (hs : L.Pairwise fun a b => ¬ (a.tx.src = b.tx.src ∧ a.tx.nonce = b.tx.nonce)) (hk : k < L.length) : ∀ w ∈ L.eraseIdx k, ¬ (w.tx.src = (L.getD k Wait.zero).tx.src ∧ w.tx.nonce = (L.getD k Wait.zero).tx.nonce) := by
  intro w hw
  obtain ⟨i, hi, rfl⟩ := List.getElem_of_mem hw
  rw [← getD_el hi, getD_erase]
  have hl : (L.eraseIdx k).length = L.length - 1 := by rw [List.length_eraseIdx, if_pos hk]
  have hp := List.pairwise_iff_getElem.1 hs
  split
  · rw [getD_el (show i < L.length by omega), getD_el hk]
    exact hp i k _ _ (by omega)
  · rw [getD_el (show i + 1 < L.length by omega), getD_el hk]
    exact fun e => hp k (i + 1) _ _ (by omega) ⟨e.1.symm, e.2.symm⟩
theorem o_pop {i : Nat} {s : S} (h : O i s) : O i (pop s).1 := by
  unfold pop
  split
  case isFalse => exact h
  rename_i hn
  obtain ⟨k, hk⟩ := next_ok hn
  have hg := good_next h.good s.nx s.now
  have hlt := (pick_lt hk).1
  have hrd := (pick_lt hk).2
  have hmin := pick_min hk
  have hm := mem_getD (L := s.p.L) hlt
  have hsub := erase_sub s.p.L k
  have hne := erase_ne h.good.one hlt
  rw [next_yes hk] at hg ⊢
  generalize hx : s.p.L.getD k Wait.zero = x at *
  have hrx := h.good.right x hm
  have hin : ∀ w ∈ s.p.L.eraseIdx k, raise x w ∈ (s.p.L.eraseIdx k).map (raise x) := fun w hw => List.mem_map_of_mem hw
  refine ⟨hg, by show (bump s.nx x).length = 64; rw [bump_len]; exact h.len, h.low, ?_, ?_, ?_, ?_, ?_⟩
  · intro w hw
    obtain ⟨y, hy, rfl⟩ := List.mem_map.1 hw
    have h1 := h.pl y (hsub.subset hy)
    have h2 := h.pl x hm
    unfold raise
    split
    · exact h2
    · exact h1
  · intro w hw
    obtain ⟨y, hy, rfl⟩ := List.mem_map.1 hw
    rw [(raise_keeps x y).2.1]
    exact h.ix y (hsub.subset hy)
  · intro j hj
    have hj : j + 1 < (s.out ++ [x]).length := hj
    show ¬ less ((s.out ++ [x]).getD (j + 1) Wait.zero) ((s.out ++ [x]).getD j Wait.zero)
    simp only [List.length_append, List.length_cons, List.length_nil] at hj
    by_cases e : j + 1 < s.out.length
    · rw [Oct.getD_left _ _ e, Oct.getD_left _ _ (by omega)]
      exact h.ord j e
    · have e1 : j + 1 = s.out.length := by omega
      rw [e1, Oct.getD_at0, Oct.getD_left _ _ (by omega)]
      have hl : s.out.getLast? = some (s.out.getD j Wait.zero) := by
        rw [List.getLast?_eq_getElem?, List.getD_eq_getElem?_getD, show s.out.length - 1 = j by omega, List.getElem?_eq_getElem (by omega)]
        rfl
      exact (h.last _ hl).2.2 x hm hrd.2
  · exact runs_snoc _ _ _ _ h.run hrd.2
  · intro y hy
    have hy : (s.out ++ [x]).getLast? = some y := hy
    rw [List.getLast?_concat] at hy
    injection hy with hy
    subst hy
    refine ⟨hrd.1, h.pl x hm, fun w hw hnw => ?_⟩
    obtain ⟨z, hz, rfl⟩ := List.mem_map.1 hw
    have hrz := h.good.right z (hsub.subset hz)
    have hnw : (raise x z).tx.nonce = nextOf (bump s.nx x) (raise x z) := hnw
    have e1 : nextOf (bump s.nx x) (raise x z) = nextOf (bump s.nx x) z := by unfold nextOf; rw [(raise_keeps x z).1]
    rw [e1, (raise_keeps x z).1, bump_at h.len hrx hrz] at hnw
    by_cases hs : z.tx.src = x.tx.src
    · rw [if_pos hs] at hnw
      have hnn : z.tx.nonce = x.tx.nonce + 1 := by rw [hnw, hrd.2]
      by_cases hl : less z x
      · have : raise x z = { z with time := x.time, place := x.place } := by unfold raise; rw [if_pos ⟨hs, hnn, hl⟩]
        rw [this]
        unfold less
        show ¬ (x.time < x.time ∨ x.time = x.time ∧ x.place < x.place)
        omega
      · have : raise x z = z := by unfold raise; rw [if_neg (fun f => hl f.2.2)]
        rw [this]
        exact hl
    · rw [if_neg hs] at hnw
      have : raise x z = z := by unfold raise; rw [if_neg (fun f => hs f.1)]
      rw [this]
      by_cases ht : z.time ≤ s.now
      · obtain ⟨j, hj, e⟩ := List.getElem_of_mem (hsub.subset hz)
        have := hmin j hj
        rw [getD_el hj, e] at this
        exact this ⟨ht, hnw⟩
      · unfold less
        have := hrd.1
        omega
theorem o_drain {i : Nat} : ∀ (n : Nat) (s : S), O i s → O i (drain n s)
  | 0, s, h => h
  | n + 1, s, h => by
    unfold drain
    split
    · exact o_drain n _ (o_pop h)
    · exact h
theorem o_tick {i : Nat} {s : S} (h : O i s) : O (i + 1) (tick s) := by
  have hsub : List.Sublist (s.p.L.filter fun w => !isOld (s.now + 1) w) s.p.L := List.filter_sublist
  refine ⟨good_old h.good _, h.len, ?_, fun w hw => ?_, fun w hw => ?_, h.ord, h.run, fun x hx => ?_⟩
  · have := h.low
    show 0 ≤ s.now + 1 ∧ s.now + 1 ≤ ((i + 1 : Nat) : Int)
    omega
  · have := h.pl w (hsub.subset hw)
    omega
  · have := h.ix w (hsub.subset hw)
    omega
  · obtain ⟨h1, h2, h3⟩ := h.last x hx
    refine ⟨by show x.time ≤ s.now + 1; omega, by omega, fun w hw hn => h3 w (hsub.subset hw) hn⟩
theorem put_mem {p : Pool} {w x : Wait} (h : x ∈ (put p w).1.L) : x = w ∨ x ∈ p.L := by
  unfold put at h
  split at h
  · exact .inr h
  split at h
  · exact .inr h
  split at h
  · exact ins_mem.1 h
  split at h
  · exact .inr h
  · rcases ins_mem.1 h with h | h
    · exact .inl h
    · exact .inr ((erase_sub _ _).subset h)
theorem o_lay {i : Nat} {s : S} (h : O i s) {c : Come} (hd : 0 ≤ c.delay) : O (i + 1) (lay s c i) := by
  have hl := h.low
  refine ⟨good_put h.good _, h.len, ?_, fun w hw => ?_, fun w hw => ?_, h.ord, h.run, fun x hx => ?_⟩
  · show 0 ≤ s.now ∧ s.now ≤ ((i + 1 : Nat) : Int)
    omega
  · rcases put_mem hw with rfl | hw
    · show (i : Int) < ((i + 1 : Nat) : Int)
      omega
    · have := h.pl w hw
      omega
  · rcases put_mem hw with rfl | hw
    · show (i : Int) < ((i + 1 : Nat) : Int)
      omega
    · have := h.ix w hw
      omega
  · obtain ⟨h1, h2, h3⟩ := h.last x hx
    refine ⟨h1, by omega, fun w hw hn => ?_⟩
    rcases put_mem hw with rfl | hw
    · unfold less waitOf
      show ¬ (s.now + c.delay < x.time ∨ s.now + c.delay = x.time ∧ (i : Int) < x.place)
      omega
    · exact h3 w hw hn
theorem o_start {n : Int} (h : 1 ≤ n ∧ n ≤ 256) : O 0 (start n) :=
  ⟨good_new h, rfl, ⟨by show (0 : Int) ≤ 0; omega, by show (0 : Int) ≤ _; omega⟩, fun w hw => absurd hw (by simp [start]), fun w hw => absurd hw (by simp [start]), fun k hk => absurd hk (by simp [start]), rfl, fun x hx => absurd hx (by simp [start])⟩
theorem o_come {i n : Nat} {s : S} (h : O i s) {c : Come} (hd : 0 ≤ c.delay) : O (i + 1) (come n s c i) := by
  unfold come
  split
  · exact o_tick (o_drain _ _ h)
  · exact o_lay h hd
theorem o_play {n : Int} (h : 1 ≤ n ∧ n ≤ 256) {l : List Come} (hl : ∀ i, 0 ≤ (l.getD i Come.zero).delay) : ∀ i, O i (play n l i)
  | 0 => o_start h
  | i + 1 => o_come (o_play h hl i) (hl i)
/-! ### Ends -/
def id' (w : Wait) : Int × Tx := (w.index, w.tx)
def ids (s : S) : List (Int × Tx) := s.out.map id' ++ (s.gone.map id' ++ s.p.L.map id')
theorem ids_raise (x : Wait) (L : List Wait) : (L.map (raise x)).map id' = L.map id' := by
  rw [List.map_map]
  refine List.map_congr_left fun w _ => ?_
  unfold id'
  show ((raise x w).index, (raise x w).tx) = _
  rw [(raise_keeps x w).1, (raise_keeps x w).2.1]
theorem perm_erase {L : List Wait} {k : Nat} (hk : k < L.length) : List.Perm L (L.getD k Wait.zero :: L.eraseIdx k) := by
  rw [List.eraseIdx_eq_take_drop_succ]
  have e : L = L.take k ++ (L.getD k Wait.zero :: L.drop (k + 1)) := by rw [getD_el hk]; simp
  conv => lhs; rw [e]
  exact List.perm_middle
theorem perm_ins (L : List Wait) (w : Wait) : List.Perm (ins L w) (w :: L) := by
  unfold ins
  refine List.perm_middle.trans ?_
  rw [List.take_append_drop]
theorem ids_pop {s : S} (h : Good s.p) : List.Perm (ids (pop s).1) (ids s) := by
  unfold pop
  split
  case isFalse => exact List.Perm.refl _
  rename_i hn
  obtain ⟨k, hk⟩ := next_ok hn
  have hlt := (pick_lt hk).1
  rw [next_yes hk]
  unfold ids
  show List.Perm ((s.out ++ [s.p.L.getD k Wait.zero]).map id' ++ (s.gone.map id' ++ ((s.p.L.eraseIdx k).map (raise (s.p.L.getD k Wait.zero))).map id')) _
  rw [ids_raise, List.map_append, List.append_assoc]
  refine List.Perm.append_left _ ?_
  have hp := (perm_erase hlt).map id'
  refine List.Perm.trans ?_ (List.Perm.append_left _ hp.symm)
  simp only [List.map_cons, List.map_nil, List.cons_append, List.nil_append]
  exact List.perm_middle.symm
theorem good_pop {s : S} (h : Good s.p) : Good (pop s).1.p := by
  unfold pop
  split
  · exact good_next h _ _
  · exact h
theorem good_drain : ∀ (n : Nat) (s : S), Good s.p → Good (drain n s).p
  | 0, _, h => h
  | n + 1, s, h => by
    unfold drain
    split
    · exact good_drain n _ (good_pop h)
    · exact h
theorem ids_drain : ∀ (n : Nat) (s : S), Good s.p → List.Perm (ids (drain n s)) (ids s) ∧ (drain n s).put = s.put
  | 0, s, _ => ⟨List.Perm.refl _, rfl⟩
  | n + 1, s, h => by
    unfold drain
    split
    · obtain ⟨h1, h2⟩ := ids_drain n _ (good_pop h)
      refine ⟨h1.trans (ids_pop h), h2.trans ?_⟩
      unfold pop
      split <;> rfl
    · exact ⟨List.Perm.refl _, rfl⟩
theorem ids_tick (s : S) : List.Perm (ids (tick s)) (ids s) := by
  unfold ids tick old
  show List.Perm (s.out.map id' ++ ((s.gone ++ s.p.L.filter (isOld (s.now + 1))).map id' ++ (s.p.L.filter fun w => !isOld (s.now + 1) w).map id')) _
  rw [List.map_append, List.append_assoc]
  refine List.Perm.append_left _ (List.Perm.append_left _ ?_)
  rw [← List.map_append]
  exact (List.filter_append_perm _ _).map id'
theorem ids_lay {s : S} (h : Good s.p) (c : Come) (i : Nat) : ((lay s c i).put = s.put + 1 ∧ List.Perm (ids (lay s c i)) (((i : Int), c.tx) :: ids s)) ∨ ((lay s c i).put = s.put ∧ List.Perm (ids (lay s c i)) (ids s)) := by
  unfold lay ids
  generalize hw : waitOf c i s.now = w
  have hid : id' w = ((i : Int), c.tx) := by subst hw; rfl
  unfold put
  split
  · exact .inr ⟨rfl, List.Perm.refl _⟩
  split
  · exact .inr ⟨rfl, List.Perm.refl _⟩
  split
  · refine .inl ⟨rfl, ?_⟩
    show List.Perm (s.out.map id' ++ (s.gone.map id' ++ (ins s.p.L w).map id')) _
    refine List.Perm.trans (List.Perm.append_left _ (List.Perm.append_left _ ((perm_ins s.p.L w).map id'))) ?_
    rw [List.map_cons, hid]
    exact (List.Perm.append_left _ List.perm_middle).trans List.perm_middle
  rename_i h3
  split
  · exact .inr ⟨rfl, List.Perm.refl _⟩
  · refine .inl ⟨rfl, ?_⟩
    have hsz := h.size
    have hk : poorest s.p.L s.p.L.length < s.p.L.length := poorest_lt (by omega)
    generalize poorest s.p.L s.p.L.length = k at hk ⊢
    show List.Perm (s.out.map id' ++ ((s.gone ++ [s.p.L.getD k Wait.zero]).map id' ++ (ins (s.p.L.eraseIdx k) w).map id')) _
    rw [List.map_append, List.append_assoc]
    have hp := (perm_erase hk).map id'
    rw [List.map_cons] at hp
    refine List.Perm.trans (List.Perm.append_left _ (List.Perm.append_left _ (List.Perm.append_left _ ((perm_ins _ w).map id')))) ?_
    simp only [List.map_cons, List.map_nil, List.cons_append, List.nil_append, hid]
    refine List.Perm.trans ?_ (List.perm_middle (l₁ := s.out.map id'))
    refine List.Perm.append_left _ ?_
    refine List.Perm.trans ?_ (List.perm_middle (l₁ := s.gone.map id'))
    refine List.Perm.append_left _ ?_
    exact (List.Perm.swap _ _ _).trans (List.Perm.cons _ hp.symm)
structure E (l : List Come) (i : Nat) (s : S) : Prop where
  good : Good s.p
  put : s.put = ((ids s).length : Int)
  from_ : ∀ x ∈ ids s, ∃ k : Nat, k < i ∧ x.1 = (k : Int) ∧ x.2 = (l.getD k Come.zero).tx
  once : ((ids s).map Prod.fst).Nodup
theorem e_perm {l : List Come} {i : Nat} {s t : S} (h : E l i s) (hp : List.Perm (ids t) (ids s)) (hg : Good t.p) (hs : t.put = s.put) : E l i t :=
  ⟨hg, by rw [hs, h.put, hp.length_eq], fun x hx => h.from_ x (hp.subset hx), (hp.map Prod.fst).nodup_iff.2 h.once⟩
theorem e_more {l : List Come} {i : Nat} {s : S} (h : E l i s) : E l (i + 1) s :=
  ⟨h.good, h.put, fun x hx => by obtain ⟨k, h1, h2⟩ := h.from_ x hx; exact ⟨k, by omega, h2⟩, h.once⟩
theorem e_come {l : List Come} {i n : Nat} {s : S} (h : E l i s) : E l (i + 1) (come n s (l.getD i Come.zero) i) := by
  unfold come
  split
  · obtain ⟨h1, h2⟩ := ids_drain (n + 1) s h.good
    exact e_more (e_perm (t := tick (drain (n + 1) s)) h ((ids_tick _).trans h1) (good_old (good_drain _ _ h.good) _) h2)
  · rcases ids_lay h.good (l.getD i Come.zero) i with ⟨h1, h2⟩ | ⟨h1, h2⟩
    · refine ⟨good_put h.good _, ?_, fun x hx => ?_, ?_⟩
      · rw [h1, h2.length_eq, h.put]
        simp
      · rcases List.mem_cons.1 (h2.subset hx) with rfl | hx
        · exact ⟨i, by omega, rfl, rfl⟩
        · obtain ⟨k, h3, h4⟩ := h.from_ x hx
          exact ⟨k, by omega, h4⟩
      · refine (h2.map Prod.fst).nodup_iff.2 ?_
        rw [List.map_cons, List.nodup_cons]
        refine ⟨fun hm => ?_, h.once⟩
        obtain ⟨y, hy, e⟩ := List.mem_map.1 hm
        obtain ⟨k, h3, h4, -⟩ := h.from_ y hy
        rw [h4] at e
        have e : (k : Int) = (i : Int) := e
        omega
    · exact e_more (e_perm h h2 (good_put h.good _) h1)
theorem e_play {n : Int} (h : 1 ≤ n ∧ n ≤ 256) (l : List Come) : ∀ i, E l i (play n l i)
  | 0 => ⟨good_new h, rfl, fun x hx => absurd hx (by simp [play, start, ids]), by simp [play, start, ids]⟩
  | i + 1 => e_come (e_play h l i)
end Go.Pool

/- The lane, in plain Lean. -/
namespace Go.Lane
open Go.Txs (Tx within)
structure Held where
  round : Int
  who : Int
  turn : Int
structure Lane where
  length : Int
  L : List Held
def roundOf (length now : Int) : Int := if now < 0 then 0 else now / length
def isAt (round : Int) (x : Held) : Bool := decide (x.round = round)
def look (L : List Held) (round : Int) : Option Held := L.find? (isAt round)
/-- A round's place. -/
def place (L : List Held) (round : Int) : Option Nat := L.findIdx? (isAt round)
def put (L : List Held) (round : Int) (x : Held) : List Held :=
  match place L round with
  | some i => L.set i x
  | none => L
def set (l : Lane) (round who : Int) : Lane × Int :=
  if round < 0 then (l, 2) else if ¬ within who 63 then (l, 20) else if (look l.L round).isSome = true then (l, 23) else ({ l with L := l.L ++ [⟨round, who, 0⟩] }, 0)
def give (l : Lane) (round src dst now : Int) : Lane × Int :=
  if ¬ within src 63 ∨ ¬ within dst 63 then (l, 20) else
  match look l.L round with
  | none => (l, 34)
  | some x => if x.who ≠ src then (l, 21) else if round < roundOf l.length now then (l, 26) else ({ l with L := put l.L round ⟨round, dst, x.turn⟩ }, 0)
def check (l : Lane) (t : Tx) (now : Int) : Int :=
  if Txs.check t ≠ 0 then Txs.check t else if t.lane = false then 2 else if t.round ≠ roundOf l.length now then 29 else
  match look l.L t.round with
  | none => 34
  | some x => if (Seal.tag x.who 2 (Txs.body t).1).1 ≠ t.hand then 21 else if t.turn ≠ x.turn then 30 else 0
def take (l : Lane) (t : Tx) (now : Int) : Lane × Int :=
  if check l t now ≠ 0 then (l, check l t now) else
  match look l.L t.round with
  | none => (l, 0)
  | some x => ({ l with L := put l.L t.round ⟨t.round, x.who, x.turn + 1⟩ }, 0)
def turnOf (L : List Held) (round : Int) : Int := match look L round with
  | some x => x.turn
  | none => 0
/-! ### Looking -/
structure Good (l : Lane) : Prop where
  len : 1 ≤ l.length ∧ l.length ≤ 1099511627776
  at_ : ∀ r x, look l.L r = some x → x.round = r ∧ within x.who 63 ∧ 0 ≤ x.turn ∧ x.turn ≤ 1099511627777
theorem good_new {n : Int} (h : 1 ≤ n ∧ n ≤ 1099511627776) : Good ⟨n, []⟩ := ⟨h, fun _ _ h => by simp [look] at h⟩
/-! ### Rounds -/
end Go.Lane
