/- Part of a proof about given Go functions: contracts of functions, or plain laws. -/
import Derived.Test.YtlhddgkbbdfacaaDoorS6
import Derived.Test.YtlhddgkbbdfacaaDoorS1
import Derived.Test.YtlhddgkbbdfacaaDoorS3
import Derived.Test.YtlhddgkbbdfacaaDoorS5
import Derived.Test.YtlhddgkbbdfacaaDoorS4
import Derived.Test.YtlhddgkbbdfacaaDoorS2
import Derived.Deep.RegionHeld3
/- Bids, receipts, batches and items as bytes, in plain Lean. -/
namespace Go.Note
def okNum (n : Int) : Bool := decide (0 ≤ n ∧ n ≤ 1099511627776)
def nums (l : List Int) : Bool := l.all okNum
def num (n : Int) : List UInt8 := (Oct.number n).1
/-- A list that is all of a text. -/
def whole (s : List UInt8) : List (List UInt8) × Int := if (Oct.rdl s 0).2.2 ≠ 0 then ([], (Oct.rdl s 0).2.2) else if (Oct.rdl s 0).2.1 < s.length then ([], 6) else ((Oct.rdl s 0).1, 0)
/-- A number that is all of a text. -/
def wn (t : List UInt8) : Int × Int := if (Oct.rdn t 0).2.2 ≠ 0 then (0, (Oct.rdn t 0).2.2) else if (Oct.rdn t 0).2.1 < t.length then (0, 6) else ((Oct.rdn t 0).1, 0)
def okn (t : List UInt8) : Bool := decide ((wn t).2 = 0)
/-- The first k of some texts as numbers. -/
def first (L : List (List UInt8)) (k : Nat) : Option (List Int) := if L.length < k then none else if (L.take k).all okn then some ((L.take k).map fun t => (wn t).1) else none
def Z : List UInt8 := List.replicate 32 0
structure Bid where
  round : Int
  who : Int
  amount : Int
  salt : Int
  tag : List UInt8
def Bid.zero : Bid := ⟨0, 0, 0, 0, Z⟩
def Bid.ok (b : Bid) : Bool := nums [b.round, b.who, b.amount, b.salt] && decide (b.who < 64)
def Bid.said (b : Bid) : List UInt8 := (Oct.list [num b.round, num b.who, num b.amount, num b.salt]).1
structure Receipt where
  index : Int
  kind : Int
  time : Int
  body : List UInt8
  prev : List UInt8
  hash : List UInt8
def Receipt.zero : Receipt := ⟨0, 0, 0, [], Z, Z⟩
def Receipt.ok (r : Receipt) : Bool := nums [r.index, r.time] && decide (r.kind = 1 ∨ r.kind = 2) && decide (r.body.length ≤ 656)
def Receipt.link (r : Receipt) : List UInt8 := Sha.sum (r.prev ++ (Oct.list [num r.index, num r.kind, num r.time, r.body]).1)
def link (prev : List UInt8) (index kind time : Int) (body : List UInt8) : Receipt × Int :=
  if (⟨index, kind, time, body, prev, Z⟩ : Receipt).ok then (⟨index, kind, time, body, prev, (⟨index, kind, time, body, prev, Z⟩ : Receipt).link⟩, 0) else (Receipt.zero, 2)
structure Part where
  delayed : Bool
  text : List UInt8
def Part.ok (p : Part) : Bool := if p.delayed then decide (p.text = []) else decide (p.text.length ≤ 656)
def Part.laid (p : Part) : List UInt8 := if p.delayed then [2] else 1 :: p.text
structure Batch where
  seq : Int
  first : Int
  before : Int
  parts : List Part
def Batch.zero : Batch := ⟨0, 0, 0, []⟩
/-- A part's text, read. -/
def part (t : List UInt8) : Option Part :=
  if t = [2] then some ⟨true, []⟩ else if t.getD 0 0 = 1 ∧ t ≠ [] ∧ t.length ≤ 657 then some ⟨false, t.drop 1⟩ else none
def parts (l : List (List UInt8)) : Option (List Part) := l.mapM part
structure Item where
  kind : Int
  who : Int
  n : Int
  text : List UInt8
def Item.zero : Item := ⟨0, 0, 0, []⟩
def Item.ok (i : Item) : Bool := nums [i.who, i.n] && decide (i.who ≤ 64) && decide (i.text.length ≤ 65472) && (if i.kind = 1 ∨ i.kind = 3 then decide (i.n = 0) else if i.kind = 2 then decide (i.who = 0) && decide (i.text = []) else false)
def writeItem (i : Item) : List UInt8 × Int := if i.ok then Oct.list [num i.kind, num i.who, num i.n, i.text] else ([], 2)
/-! ### Small laws for the walks -/
theorem nums_bad {l : List Int} {k : Nat} (h : k < l.length) (hx : ¬ (0 ≤ l.getD k 0 ∧ l.getD k 0 ≤ 1099511627776)) : nums l = false := by
  unfold nums
  rw [List.all_eq_false]
  refine ⟨l.getD k 0, ?_, by simp only [okNum, decide_eq_true_eq]; exact hx⟩
  rw [Oct.getD_eq 0 h]
  exact List.getElem_mem h
theorem take_all {α : Type} {f : α → Bool} {l : List α} {k : Nat} (d : α) (h : k < l.length) (ht : (l.take k).all f = true) (hx : f (l.getD k d) = true) : (l.take (k + 1)).all f = true := by
  rw [Oct.take_succ d h, List.all_append, ht, List.all_cons, hx]
  rfl
theorem nums_all {l : List Int} {k : Nat} (h : l.length ≤ k) (ht : (l.take k).all okNum = true) : nums l = true := by
  rw [List.take_of_length_le h] at ht
  exact ht
end Go.Note
namespace Go.Note
theorem list_bad {l : List (List UInt8)} (h : (Oct.list l).2 ≠ 0) : Oct.list l = ([], 3) := by
  unfold Oct.list at h ⊢
  split
  · rfl
  · rename_i h1; rw [if_neg h1] at h; exact absurd rfl h
theorem list_fine {l : List (List UInt8)} (h : ¬ (Oct.list l).2 ≠ 0) : Oct.list l = ((Oct.list l).1, 0) := by
  have : (Oct.list l).2 = 0 := Decidable.not_not.1 h
  rw [← this]
theorem Z_len : Z.length = 32 := rfl
end Go.Note
namespace Go.Note
end Go.Note
namespace Go.Note
theorem three {α : Type} {l : List α} (h : l.length = 3) : ∃ a b c, l = [a, b, c] := by
  match l, h with
  | [a, b, c], _ => exact ⟨a, b, c, rfl⟩
end Go.Note
namespace Go.Note
instance : DecidableEq Bid := fun x y => decidable_of_iff (x.round = y.round ∧ x.who = y.who ∧ x.amount = y.amount ∧ x.salt = y.salt ∧ x.tag = y.tag) (by cases x; cases y; simp)
instance : DecidableEq Receipt := fun x y => decidable_of_iff (x.index = y.index ∧ x.kind = y.kind ∧ x.time = y.time ∧ x.body = y.body ∧ x.prev = y.prev ∧ x.hash = y.hash) (by cases x; cases y; simp)
instance : DecidableEq Part := fun x y => decidable_of_iff (x.delayed = y.delayed ∧ x.text = y.text) (by cases x; cases y; simp)
instance : DecidableEq Item := fun x y => decidable_of_iff (x.kind = y.kind ∧ x.who = y.who ∧ x.n = y.n ∧ x.text = y.text) (by cases x; cases y; simp)
instance : DecidableEq Batch := fun x y => decidable_of_iff (x.seq = y.seq ∧ x.first = y.first ∧ x.before = y.before ∧ x.parts = y.parts) (by cases x; cases y; simp)
theorem Bid.ok_is (b : Bid) : b.ok = decide ((0 ≤ b.round ∧ b.round ≤ 1099511627776) ∧ (0 ≤ b.who ∧ b.who ≤ 63) ∧ (0 ≤ b.amount ∧ b.amount ≤ 1099511627776) ∧ (0 ≤ b.salt ∧ b.salt ≤ 1099511627776)) := by
  simp only [Bid.ok, nums, okNum, List.all_cons, List.all_nil, Bool.and_true]
  rw [Bool.eq_iff_iff]
  simp only [Bool.and_eq_true, decide_eq_true_eq]
  omega
theorem nums2 (a b : Int) : nums [a, b] = decide ((0 ≤ a ∧ a ≤ 1099511627776) ∧ (0 ≤ b ∧ b ≤ 1099511627776)) := by
  simp only [nums, okNum, List.all_cons, List.all_nil, Bool.and_true]
  rw [Bool.eq_iff_iff]
  simp only [Bool.and_eq_true, decide_eq_true_eq]
theorem Receipt.ok_is (r : Receipt) : r.ok = decide (((0 ≤ r.index ∧ r.index ≤ 1099511627776) ∧ (0 ≤ r.time ∧ r.time ≤ 1099511627776)) ∧ (r.kind = 1 ∨ r.kind = 2) ∧ r.body.length ≤ 656) := by
  rw [Receipt.ok, nums2, Bool.eq_iff_iff]
  simp only [Bool.and_eq_true, decide_eq_true_eq]
  omega
theorem Item.ok_is (i : Item) : i.ok = decide (((0 ≤ i.who ∧ i.who ≤ 64) ∧ (0 ≤ i.n ∧ i.n ≤ 1099511627776)) ∧ i.text.length ≤ 65472 ∧ ((i.kind = 1 ∨ i.kind = 3) ∧ i.n = 0 ∨ i.kind = 2 ∧ i.who = 0 ∧ i.text.length = 0)) := by
  rw [Item.ok, nums2, Bool.eq_iff_iff]
  by_cases h1 : i.kind = 1 ∨ i.kind = 3
  · simp only [Bool.and_eq_true, decide_eq_true_eq, if_pos h1]
    omega
  · by_cases h2 : i.kind = 2
    · simp only [Bool.and_eq_true, decide_eq_true_eq, if_neg h1, if_pos h2, List.length_eq_zero_iff]
      rw [h2]
      exact ⟨fun ⟨⟨⟨h3, h4⟩, h5⟩, h6, h7⟩ => ⟨⟨⟨h3.1.1, h4⟩, h3.2⟩, h5, .inr ⟨rfl, h6, h7⟩⟩, fun ⟨h3, h5, h6⟩ => by
        rcases h6 with h6 | ⟨_, h6, h7⟩
        · omega
        · exact ⟨⟨⟨⟨⟨h3.1.1, by omega⟩, h3.2⟩, h3.1.2⟩, h5⟩, h6, h7⟩⟩
    · simp only [Bool.and_eq_true, decide_eq_true_eq, if_neg h1, if_neg h2]
      simp only [h1, h2, false_and, or_self, and_false, Bool.false_eq_true]
end Go.Note
namespace Go.Note
end Go.Note
namespace Go.Note
theorem Part.ok_is (p : Part) : p.ok = decide ((p.delayed = true → p.text.length = 0) ∧ (p.delayed = false → p.text.length ≤ 656)) := by
  unfold Part.ok
  cases p.delayed <;> simp
end Go.Note
namespace Go.Note
end Go.Note
namespace Go.Note
theorem Batch.same {x y : Batch} (h1 : x.seq = y.seq) (h2 : x.first = y.first) (h3 : x.before = y.before) (h4 : x.parts = y.parts) : x = y := by
  cases x
  cases y
  simp only at *
  subst h1 h2 h3 h4
  rfl
end Go.Note
namespace Go.Note
end Go.Note

/- What is written is read as it was, and back. -/
namespace Go.Note
theorem list_small {l : List (List UInt8)} (h1 : l.length ≤ 1024) (h2 : l.flatten.length ≤ 65536) : (Oct.list l).2 = 0 := by rw [Oct.list_ok (by omega) (by omega)]
theorem num_len {n : Int} (h1 : n ≤ 9223372036854775807) : (num n).length ≤ 9 := Oct.number_len h1
theorem ok_item {i : Item} (h : i.ok = true) : (0 ≤ i.kind ∧ i.kind ≤ 3) ∧ (0 ≤ i.who ∧ i.who ≤ 64) ∧ (0 ≤ i.n ∧ i.n ≤ 1099511627776) ∧ i.text.length ≤ 65472 := by
  rw [Item.ok_is] at h
  simp only [decide_eq_true_eq] at h
  omega
/-! ### What is read is written as it was -/
end Go.Note

/- What comes at any rate; small laws on what is read. -/
namespace Go.Note
def b0 : Bid := ⟨1, 2, 3, 0, Z⟩
theorem num0 : num 0 = [0] := by decide
theorem num1 : num 1 = [1, 1] := by unfold num; rw [Seal.num1 (by omega) (by omega)]; rfl
theorem numL_small {m : Nat} (h0 : 0 < m) (h : m < 256) : Oct.numL m = [1, UInt8.ofNat m] := by
  have := Seal.num1 (who := (m : Int)) (by omega) (by omega)
  rw [Oct.number_nat] at this
  simpa using this
end Go.Note

/- The inbox's messages and calls, in plain Lean. -/
namespace Go.Inbox
open Go.Note
structure Block where
  number : Int
  salt : Int
  parent : List UInt8
  items : List Note.Item
structure Entry where
  who : Int
  text : List UInt8
  block : Int
  acc : List UInt8
instance : DecidableEq Entry := fun x y => decidable_of_iff (x.who = y.who ∧ x.text = y.text ∧ x.block = y.block ∧ x.acc = y.acc) (by cases x; cases y; simp)
def Entry.zero : Entry := ⟨0, [], 0, Z⟩
/-- A message, as an item. -/
def isMsg (i : Note.Item) : Bool := i.ok && decide (i.kind = 1) && decide (i.text.length ≤ 640)
def next (acc : List UInt8) (who : Int) (text : List UInt8) : List UInt8 := Sha.sum (acc ++ (Oct.list [num who, text]).1)
/-- Messages of items: what stands for all, and the entries. -/
def step (block : Int) (s : List UInt8 × List Entry) (i : Note.Item) : List UInt8 × List Entry := if isMsg i then (next s.1 i.who i.text, s.2 ++ [⟨i.who, i.text, block, next s.1 i.who i.text⟩]) else s
def blockStep (s : List UInt8 × List Entry) (b : Block) : List UInt8 × List Entry := b.items.foldl (step b.number) s
def run (s : List UInt8 × List Entry) (l : List Block) : List UInt8 × List Entry := l.foldl blockStep s
def messages (l : List Block) : List Entry := (run (Z, []) l).2
/-! ### Laws -/
theorem write_ok (i : Note.Item) : ((writeItem i).2 = 0) ↔ i.ok = true := by
  unfold writeItem
  split
  · rename_i h
    have hw := ok_item h
    refine ⟨fun _ => h, fun _ => list_small (by simp) ?_⟩
    have h0 := num_len (n := i.kind) (by omega)
    have h1 := num_len (n := i.who) (by omega)
    have h2 := num_len (n := i.n) (by omega)
    simp only [List.flatten_cons, List.flatten_nil, List.length_append, List.length_nil]
    omega
  · rename_i h
    exact ⟨fun h1 => by simp at h1, fun h1 => absurd h1 h⟩
/-! ### Reach -/
theorem take_getD {α : Type} {l : List α} {n j : Nat} (d : α) (h : j < n) : (l.take n).getD j d = l.getD j d := by simp [List.getD_eq_getElem?_getD, List.getElem?_take, h]
end Go.Inbox

/- The tree of blocks, in plain Lean. -/
namespace Go.Tree
open Go.Note
open Go.Inbox (Block)
def Block.zero : Block := ⟨0, 0, Z, []⟩
instance : DecidableEq Block := fun x y => decidable_of_iff (x.number = y.number ∧ x.salt = y.salt ∧ x.parent = y.parent ∧ x.items = y.items) (by cases x; cases y; simp)
def okBlock (b : Block) : Bool := decide ((0 ≤ b.number ∧ b.number ≤ 1099511627776) ∧ (0 ≤ b.salt ∧ b.salt ≤ 1099511627776) ∧ b.items.length ≤ 32)
def texts (b : Block) : List (List UInt8) := num b.number :: num b.salt :: b.parent :: b.items.map fun i => (writeItem i).1
/-- A block's hash. -/
def hash (b : Block) : List UInt8 × Int :=
  if okBlock b = true ∧ b.items.all Note.Item.ok = true then (if (Oct.list (texts b)).2 = 0 then (Sha.sum (Oct.list (texts b)).1, 0) else (Z, 3)) else (Z, 2)
structure Chain where
  L : List Block
  depth : Int
  deepest : Int
def hashes (L : List Block) : List (List UInt8) := L.map fun b => (hash b).1
def Chain.height (c : Chain) : Int := (c.L.length : Int) - 1
def Chain.final (c : Chain) : Int := if c.height < c.depth then 0 else c.height - c.depth
def last (L : List Block) : Block := L.getD (L.length - 1) Block.zero
/-- The block behind some. -/
def behind (L : List Block) (items : List Note.Item) (salt : Int) : Block := ⟨(L.length : Int), salt, (hash (last L)).1, items⟩
def grow (L : List Block) (items : List Note.Item) (salt : Int) : List Block × List UInt8 × Int :=
  if (hash (behind L items salt)).2 ≠ 0 then ([], Z, (hash (behind L items salt)).2) else (L ++ [behind L items salt], (hash (behind L items salt)).1, 0)
def mine (c : Chain) (items : List Note.Item) (salt : Int) : Chain × List UInt8 × Int :=
  if 4096 ≤ c.height then (c, Z, 25)
  else if (grow c.L items salt).2.2 ≠ 0 then (c, Z, (grow c.L items salt).2.2)
  else ({ c with L := (grow c.L items salt).1 }, (grow c.L items salt).2.1, 0)
/-- Many blocks behind some. -/
def grows (L : List Block) (salt : Int) : List (List Note.Item) → List Block × Int
  | [] => (L, 0)
  | x :: r => if (grow L x salt).2.2 ≠ 0 then (L, (grow L x salt).2.2) else grows (grow L x salt).1 salt r
def turn (c : Chain) (under : Int) (bs : List (List Note.Item)) (salt : Int) : Chain × Int :=
  if under < 0 then (c, 2)
  else if c.height < under then (c, 32)
  else if (bs.length : Int) ≤ under then (c, 2)
  else if 4096 < c.height - under + bs.length then (c, 25)
  else if (grows (c.L.take (c.L.length - under.toNat)) salt bs).2 ≠ 0 then (c, (grows (c.L.take (c.L.length - under.toNat)) salt bs).2)
  else ({ c with L := (grows (c.L.take (c.L.length - under.toNat)) salt bs).1, deepest := max c.deepest under }, 0)
def find (hs : List (List UInt8)) (h : List UInt8) : Int × Bool :=
  match hs.findIdx? (fun x => decide (x = h)) with
  | some i => ((i : Int), true)
  | none => (0, false)
/-! ### Small laws -/
theorem hash_len (b : Block) : (hash b).1.length = 32 := by
  unfold hash
  split
  · split
    · exact Sha.sum_length _
    · rfl
  · rfl
theorem hash_bad {b : Block} (h : ¬ okBlock b = true) : hash b = (Z, 2) := by unfold hash; rw [if_neg (fun x => h x.1)]
theorem hash_item {b : Block} (h : b.items.all Note.Item.ok = false) : hash b = (Z, 2) := by unfold hash; rw [if_neg (by rw [h]; simp)]
theorem hash_at {b : Block} {k : Nat} (hk : k < b.items.length) (h : (writeItem (b.items.getD k Item.zero)).2 ≠ 0) : hash b = (Z, 2) := by
  refine hash_item ?_
  rw [List.all_eq_false]
  refine ⟨b.items.getD k Item.zero, ?_, fun hx => h ((Inbox.write_ok _).2 hx)⟩
  rw [List.getD_eq_getElem?_getD, List.getElem?_eq_getElem hk]
  exact List.getElem_mem hk
theorem zero_bad : (writeItem Item.zero).2 ≠ 0 := by decide
theorem hash_big {b : Block} (h : okBlock b = true) (h1 : b.items.all Note.Item.ok = true) (h2 : (Oct.list (texts b)).2 ≠ 0) : hash b = (Z, 3) := by unfold hash; rw [if_pos ⟨h, h1⟩, if_neg h2]
theorem hash_fine {b : Block} (h : okBlock b = true) (h1 : b.items.all Note.Item.ok = true) (h2 : (Oct.list (texts b)).2 = 0) : hash b = (Sha.sum (Oct.list (texts b)).1, 0) := by unfold hash; rw [if_pos ⟨h, h1⟩, if_pos h2]
theorem hash_ok {b : Block} (h : (hash b).2 = 0) : okBlock b = true ∧ b.items.all Note.Item.ok = true := by
  unfold hash at h
  split at h
  · rename_i h1; exact h1
  · simp at h
theorem okBlock_is (b : Block) : okBlock b = true ↔ ((0 ≤ b.number ∧ b.number ≤ 1099511627776) ∧ (0 ≤ b.salt ∧ b.salt ≤ 1099511627776) ∧ b.items.length ≤ 32) := by unfold okBlock; rw [decide_eq_true_eq]
theorem hash_items {b : Block} (h : (hash b).2 = 0) : b.items.length ≤ 32 := ((okBlock_is b).1 (hash_ok h).1).2.2
theorem hash_zero : (hash Block.zero).2 = 0 := by
  have h : (Oct.list (texts Block.zero)).2 = 0 := by
    refine list_small (by simp [texts, Block.zero]) ?_
    have h0 := num_len (n := 0) (by omega)
    simp only [texts, Block.zero, List.map_nil, List.flatten_cons, List.flatten_nil, List.length_append, List.length_nil, Z_len]
    omega
  rw [hash_fine (by decide) rfl h]
theorem hashes_len (L : List Block) : (hashes L).length = L.length := by simp [hashes]
theorem hashes_snoc (L : List Block) (b : Block) : hashes (L ++ [b]) = hashes L ++ [(hash b).1] := by simp [hashes]
theorem hashes_take (L : List Block) (k : Nat) : hashes (L.take k) = (hashes L).take k := by simp [hashes, List.map_take]
theorem hashes_each (L : List Block) : ∀ h ∈ hashes L, h.length = 32 := by
  intro h hm
  obtain ⟨b, -, rfl⟩ := List.mem_map.1 hm
  exact hash_len b
/-! ### Growing -/
theorem grow_bad {L : List Block} {items : List Note.Item} {salt : Int} (h : (hash (behind L items salt)).2 ≠ 0) : grow L items salt = ([], Z, (hash (behind L items salt)).2) := by unfold grow; rw [if_pos h]
theorem grow_ok {L : List Block} {items : List Note.Item} {salt : Int} (h : (hash (behind L items salt)).2 = 0) : grow L items salt = (L ++ [behind L items salt], (hash (behind L items salt)).1, 0) := by unfold grow; rw [if_neg (fun x => x h)]
theorem grow_fine {L : List Block} {items : List Note.Item} {salt : Int} (h : (grow L items salt).2.2 = 0) : (hash (behind L items salt)).2 = 0 := by
  unfold grow at h
  split at h
  · exact h
  · rename_i h1; omega
theorem grows_cons {L : List Block} {salt : Int} {x : List Note.Item} {r : List (List Note.Item)} (h : (grow L x salt).2.2 = 0) : grows L salt (x :: r) = grows (grow L x salt).1 salt r := by unfold grows; rw [if_neg (fun y => y h)]; cases r <;> rfl
theorem grows_stop {L : List Block} {salt : Int} {x : List Note.Item} {r : List (List Note.Item)} (h : (grow L x salt).2.2 ≠ 0) : grows L salt (x :: r) = (L, (grow L x salt).2.2) := by unfold grows; rw [if_pos h]
theorem grows_app (salt : Int) : ∀ (l m : List (List Note.Item)) (L : List Block), (grows L salt l).2 = 0 → grows L salt (l ++ m) = grows (grows L salt l).1 salt m
  | [], m, L, _ => rfl
  | x :: l, m, L, h => by
    by_cases hg : (grow L x salt).2.2 = 0
    · rw [List.cons_append, grows_cons hg, grows_cons hg]
      rw [grows_cons hg] at h
      exact grows_app salt l m _ h
    · rw [grows_stop hg] at h
      exact absurd h hg
theorem take_split {α : Type} (l : List α) {k : Nat} (d : α) (h : k < l.length) : l = l.take k ++ (l.getD k d :: l.drop (k + 1)) := by
  rw [List.getD_eq_getElem?_getD, List.getElem?_eq_getElem h]
  simp
theorem grows_one {L : List Block} {salt : Int} {x : List Note.Item} (h : (grow L x salt).2.2 = 0) : grows L salt [x] = ((grow L x salt).1, 0) := by rw [grows_cons h]; rfl
/-- A step of a turn. -/
theorem grows_step {L : List Block} {salt : Int} {l : List (List Note.Item)} {k : Nat} (hk : k < l.length) (h : (grows L salt (l.take k)).2 = 0) (h1 : (hash (behind (grows L salt (l.take k)).1 (l.getD k []) salt)).2 = 0) :
    (grows L salt (l.take (k + 1))) = ((grows L salt (l.take k)).1 ++ [behind (grows L salt (l.take k)).1 (l.getD k []) salt], 0) := by
  rw [Oct.take_succ [] hk, grows_app salt _ _ _ h, grows_one (by rw [grow_ok h1]), grow_ok h1]
theorem grows_fall {L : List Block} {salt : Int} {l : List (List Note.Item)} {k : Nat} (hk : k < l.length) (h : (grows L salt (l.take k)).2 = 0) (h1 : (hash (behind (grows L salt (l.take k)).1 (l.getD k []) salt)).2 ≠ 0) :
    (grows L salt l).2 = (hash (behind (grows L salt (l.take k)).1 (l.getD k []) salt)).2 := by
  rw [show grows L salt l = grows L salt (l.take k ++ (l.getD k [] :: l.drop (k + 1))) by rw [← take_split l [] hk], grows_app salt _ _ _ h, grows_stop (by rw [grow_bad h1]; exact h1), grow_bad h1]
theorem grows_len (salt : Int) : ∀ (l : List (List Note.Item)) (L : List Block), (grows L salt l).2 = 0 → (grows L salt l).1.length = L.length + l.length
  | [], L, _ => rfl
  | x :: l, L, h => by
    by_cases hg : (grow L x salt).2.2 = 0
    · rw [grows_cons hg] at h ⊢
      rw [grows_len salt l _ h, grow_ok (grow_fine hg)]
      simp only [List.length_append, List.length_cons, List.length_nil]
      omega
    · rw [grows_stop hg] at h
      exact absurd h hg
theorem grows_pre (salt : Int) : ∀ (l : List (List Note.Item)) (L : List Block), L <+: (grows L salt l).1
  | [], L => List.prefix_rfl
  | x :: l, L => by
    by_cases hg : (grow L x salt).2.2 = 0
    · rw [grows_cons hg]
      refine List.IsPrefix.trans ?_ (grows_pre salt l _)
      rw [grow_ok (grow_fine hg)]
      exact List.prefix_append _ _
    · rw [grows_stop hg]
      exact List.prefix_rfl
/-! ### Blocks are linked -/
structure Linked (L : List Block) : Prop where
  some : 0 < L.length
  ok : ∀ k, k < L.length → (hash (L.getD k Block.zero)).2 = 0 ∧ (L.getD k Block.zero).number = (k : Int) ∧ (L.getD k Block.zero).parent.length = 32
  next : ∀ k, k + 1 < L.length → (L.getD (k + 1) Block.zero).parent = (hash (L.getD k Block.zero)).1
theorem linked_zero : Linked [Block.zero] := by
  refine ⟨by simp, fun k hk => ?_, fun k hk => absurd hk (by simp)⟩
  have : k = 0 := by simpa using hk
  subst this
  exact ⟨hash_zero, rfl, rfl⟩
theorem linked_grow {L : List Block} {items : List Note.Item} {salt : Int} (h : Linked L) (hb : (hash (behind L items salt)).2 = 0) : Linked (L ++ [behind L items salt]) := by
  have h0 := h.some
  refine ⟨by simp, fun k hk => ?_, fun k hk => ?_⟩
  · by_cases hL : k < L.length
    · rw [Oct.getD_left _ _ hL]
      exact h.ok k hL
    · have : k = L.length := by simp at hk; omega
      subst this
      rw [Oct.getD_at0]
      exact ⟨hb, rfl, hash_len _⟩
  · simp only [List.length_append, List.length_cons, List.length_nil] at hk
    rw [Oct.getD_left (i := k) _ _ (by omega)]
    by_cases hL : k + 1 < L.length
    · rw [Oct.getD_left _ _ hL]
      exact h.next k hL
    · have e : k + 1 = L.length := by omega
      rw [e, Oct.getD_at0]
      show (hash (L.getD (L.length - 1) Block.zero)).1 = _
      rw [show L.length - 1 = k by omega]
theorem linked_take {L : List Block} (h : Linked L) {k : Nat} (hk : 0 < k) : Linked (L.take k) := by
  have h0 := h.some
  refine ⟨by rw [List.length_take]; omega, fun j hj => ?_, fun j hj => ?_⟩
  · rw [List.length_take] at hj
    rw [Inbox.take_getD _ (by omega)]
    exact h.ok j (by omega)
  · rw [List.length_take] at hj
    rw [Inbox.take_getD _ (by omega), Inbox.take_getD _ (by omega)]
    exact h.next j (by omega)
theorem linked_grows (salt : Int) : ∀ (l : List (List Note.Item)) (L : List Block), Linked L → Linked (grows L salt l).1
  | [], L, h => h
  | x :: l, L, h => by
    by_cases hg : (grow L x salt).2.2 = 0
    · rw [grows_cons hg]
      refine linked_grows salt l _ ?_
      rw [grow_ok (grow_fine hg)]
      exact linked_grow h (grow_fine hg)
    · rw [grows_stop hg]
      exact h
theorem linked_mine {c : Chain} (h : Linked c.L) (items : List Note.Item) (salt : Int) : Linked (mine c items salt).1.L := by
  unfold mine
  split
  · exact h
  · split
    · exact h
    · rename_i h1
      have h2 : (grow c.L items salt).2.2 = 0 := by omega
      show Linked (grow c.L items salt).1
      rw [grow_ok (grow_fine h2)]
      exact linked_grow h (grow_fine h2)
theorem linked_turn {c : Chain} (h : Linked c.L) (under : Int) (bs : List (List Note.Item)) (salt : Int) : Linked (turn c under bs salt).1.L := by
  unfold turn
  split
  · exact h
  split
  · exact h
  split
  · exact h
  split
  · exact h
  split
  · exact h
  · rename_i h1 h2 _ _ _
    refine linked_grows salt bs _ (linked_take h ?_)
    unfold Chain.height at h2
    have := h.some
    omega
/-! ### What stays -/
theorem turn_err {c : Chain} {under : Int} {bs : List (List Note.Item)} {salt : Int} (h : (turn c under bs salt).2 ≠ 0) : (turn c under bs salt).1 = c := by
  unfold turn at *
  repeat' split
  all_goals first | rfl | skip
  rename_i h1 h2 h3 h4 h5
  rw [if_neg h1, if_neg h2, if_neg h3, if_neg h4, if_neg h5] at h
  exact absurd rfl h
theorem turn_ok {c : Chain} {under : Int} {bs : List (List Note.Item)} {salt : Int} (h : (turn c under bs salt).2 = 0) :
    (0 ≤ under ∧ under ≤ c.height ∧ under < bs.length ∧ c.height - under + bs.length ≤ 4096) ∧ (grows (c.L.take (c.L.length - under.toNat)) salt bs).2 = 0 ∧
    (turn c under bs salt).1 = { c with L := (grows (c.L.take (c.L.length - under.toNat)) salt bs).1, deepest := max c.deepest under } := by
  unfold turn at *
  split at h
  · simp at h
  rename_i h1
  split at h
  · simp at h
  rename_i h2
  split at h
  · simp at h
  rename_i h3
  split at h
  · simp at h
  rename_i h4
  split at h
  · rename_i h5; exact absurd h h5
  rename_i h5
  refine ⟨⟨by omega, by omega, by omega, by omega⟩, by omega, ?_⟩
  rw [if_neg h1, if_neg h2, if_neg h3, if_neg h4, if_neg h5]
theorem mine_pre (c : Chain) (items : List Note.Item) (salt : Int) : c.L <+: (mine c items salt).1.L ∧ (mine c items salt).1.depth = c.depth ∧ (mine c items salt).1.deepest = c.deepest := by
  unfold mine
  split
  · exact ⟨List.prefix_rfl, rfl, rfl⟩
  split
  · exact ⟨List.prefix_rfl, rfl, rfl⟩
  · rename_i h1
    have h2 : (grow c.L items salt).2.2 = 0 := by omega
    refine ⟨?_, rfl, rfl⟩
    show c.L <+: (grow c.L items salt).1
    rw [grow_ok (grow_fine h2)]
    exact List.prefix_append _ _
theorem final_ge {c : Chain} (h0 : 0 < c.L.length) (hd : 0 ≤ c.depth) : 0 ≤ c.final ∧ c.final ≤ c.height := by
  unfold Chain.final Chain.height
  split <;> omega
theorem final_max {c : Chain} (h0 : 0 < c.L.length) : c.final = max 0 (c.height - c.depth) := by
  unfold Chain.final Chain.height
  split <;> omega
theorem mine_some {c : Chain} (h0 : 0 < c.L.length) (items : List Note.Item) (salt : Int) : 0 < (mine c items salt).1.L.length := Nat.lt_of_lt_of_le h0 (mine_pre c items salt).1.length_le
theorem turn_len {c : Chain} {under : Int} {bs : List (List Note.Item)} {salt : Int} (h : (turn c under bs salt).2 = 0) : (turn c under bs salt).1.L.length = c.L.length - under.toNat + bs.length := by
  obtain ⟨h1, h2, h3⟩ := turn_ok h
  rw [h3]
  show (grows _ _ _).1.length = _
  rw [grows_len salt bs _ h2, List.length_take]
  omega
theorem turn_some {c : Chain} (h0 : 0 < c.L.length) (under : Int) (bs : List (List Note.Item)) (salt : Int) : 0 < (turn c under bs salt).1.L.length := by
  by_cases h : (turn c under bs salt).2 = 0
  · have h1 := turn_len h
    obtain ⟨h2, -⟩ := turn_ok h
    omega
  · rw [turn_err h]; exact h0
theorem turn_deep (c : Chain) (under : Int) (bs : List (List Note.Item)) (salt : Int) : (turn c under bs salt).1.depth = c.depth ∧ ((turn c under bs salt).1.deepest = c.deepest ∨ (turn c under bs salt).1.deepest = max c.deepest under) := by
  by_cases h : (turn c under bs salt).2 = 0
  · rw [(turn_ok h).2.2]
    exact ⟨rfl, .inr rfl⟩
  · rw [turn_err h]; exact ⟨rfl, .inl rfl⟩
theorem height_le_mine {c : Chain} (h : c.height ≤ 4096) (items : List Note.Item) (salt : Int) : (mine c items salt).1.height ≤ 4096 := by
  unfold mine
  split
  · exact h
  split
  · exact h
  · rename_i h1 h2
    have h3 : (grow c.L items salt).2.2 = 0 := by omega
    show ((grow c.L items salt).1.length : Int) - 1 ≤ 4096
    rw [grow_ok (grow_fine h3)]
    simp only [List.length_append, List.length_cons, List.length_nil]
    unfold Chain.height at h1
    omega
theorem height_le_turn {c : Chain} (h : c.height ≤ 4096) (under : Int) (bs : List (List Note.Item)) (salt : Int) : (turn c under bs salt).1.height ≤ 4096 := by
  by_cases h1 : (turn c under bs salt).2 = 0
  · have h2 := turn_len h1
    obtain ⟨h3, -⟩ := turn_ok h1
    unfold Chain.height at *
    omega
  · rw [turn_err h1]; exact h
/-! ### Finding -/
theorem find_at {hs : List (List UInt8)} {h : List UInt8} {k : Nat} (hk : k < hs.length) (he : hs.getD k [] = h) (ha : ∀ j, j < k → hs.getD j [] ≠ h) : find hs h = ((k : Int), true) := by
  unfold find
  have : hs.findIdx? (fun x => decide (x = h)) = some k := by
    rw [List.findIdx?_eq_some_iff_getElem]
    refine ⟨hk, ?_, fun j hj => ?_⟩
    · rw [List.getD_eq_getElem?_getD, List.getElem?_eq_getElem hk] at he
      simpa using he
    · have := ha j hj
      rw [List.getD_eq_getElem?_getD, List.getElem?_eq_getElem (by omega)] at this
      simpa using this
  rw [this]
theorem find_none {hs : List (List UInt8)} {h : List UInt8} (ha : ∀ j, j < hs.length → hs.getD j [] ≠ h) : find hs h = (0, false) := by
  unfold find
  have : hs.findIdx? (fun x => decide (x = h)) = none := by
    rw [List.findIdx?_eq_none_iff]
    intro x hx
    obtain ⟨j, hj, rfl⟩ := List.getElem_of_mem hx
    have := ha j hj
    rw [List.getD_eq_getElem?_getD, List.getElem?_eq_getElem hj] at this
    simpa using this
  rw [this]
end Go.Tree

/- Own words: what a function hands back out of a cell and a slot. -/
set_option linter.unusedVariables false
set_option linter.unusedSimpArgs false
namespace Go.Sx
open Go.RowKit
variable {P : Program} {n : Nat} {S : List Nat} {w0 w : World} {ss : List (Nat × Value)} {l : List It} {o : Oper} {a : Act}
theorem run_cell_tmp {fn : Func} {t ty b z u : Nat} {E : TypeId} {cs : List Value} {v : Value} (hr : fn.results = #[.cell t ty, .tmp u]) (H : St n S w0 ss l a w) (hv : find ss t = some (.pointer (some ⟨b, 0, none⟩))) (ht : aggB P ty = some true) (hz : sizeB P ty = some z) (hm : It.blk b E cs ∈ l) (hl : cs.length = z) (hu : find ss u = some v) :
    (results fn a.tmps).run P w = .ok (.tuple #[.agg cs.toArray, v]) w := by
  have h1 : a.tmps[t]?.getD undef = .pointer (some ⟨b, 0, none⟩) := by simpa [Array.getD_eq_getD_getElem?] using getD_of H.fr hv
  have h3 : a.tmps[u]?.getD undef = v := by simpa [Array.getD_eq_getD_getElem?] using getD_of H.fr hu
  have h2 : Rd w (some ⟨b, 0, none⟩) cs := by
    have := Rd.blk (blk_at hm H.sep) 0 cs.length
    simpa using this
  subst hl
  simp [results, hr, h1, h3, loadVar, run_isAgg' ht, run_sizeOf' hz, h2.load, asAddr]
theorem retct {fn : Func} {R : Ending → World → Prop} {t ty b z u : Nat} {E : TypeId} {cs : List Value} {v : Value} (hr : fn.results = #[.cell t ty, .tmp u]) (H : St n S w0 ss l a w) (hv : find ss t = some (.pointer (some ⟨b, 0, none⟩))) (ht : aggB P ty = some true) (hz : sizeB P ty = some z) (hm : It.blk b E cs ∈ l) (hl : cs.length = z) (hu : find ss u = some v)
    (h : R (.returned (.tuple #[.agg cs.toArray, v])) w) : bodyPost P fn R .ret a w :=
  bodyPost_ret (run_cell_tmp hr H hv ht hz hm hl hu) H.fr.df h
end Go.Sx

/- Own words: a region that draws, with calls among reads: the reads taken as they come, under what stays. -/
set_option linter.unusedVariables false
set_option linter.unusedSimpArgs false
namespace Go.Sx
open Go.RowKit

variable {P : Program} {n : Nat} {S : List Nat} {w0 : World} {ss : List (Nat × Value)} {l ls : List It}
variable {rl : List Oper} {Q : Exit → Act → World → Prop} {o : Oper} {a : Act} {w : World} {fuel : Nat} {listed : Array Bool}

def HQ (P : Program) (rl : List Oper) (Q : Exit → Act → World → Prop) (T : World → Prop) (fuel : Nat) (listed : Array Bool) : Exit → Act → World → Prop :=
  fun e a w => e = .normal ∧ T w ∧ wpAnyH P .any rl.toArray (NoPanic Q) T fuel listed a w
theorem hreg {id : Nat} (ls : List It) (hs : ∀ w, Sep S w0 w l → Sep S w0 w ls) (hm : P.follows .mixedOrders = true) (H : St n S w0 ss l a w)
    (h : ∀ w', St n S w0 ss l a w' → wpAnyH P .any rl.toArray (NoPanic Q) (fun w => Sep S w0 w ls) rl.length (Array.replicate rl.length false) a w') : (Code.region id rl.toArray true).wp P Q a w :=
  wp_region_noPanic (wp_region_held hm (by
    have h1 := h _ ⟨H.fr, H.sep.drewN 1⟩
    have e : rl.toArray.size = rl.length := by simp
    rw [e]
    exact h1))
def takeB (rl : List Oper) (listed : Array Bool) (i : Nat) : Bool := Region.noSelect rl.toArray && Region.free .any rl.toArray listed i && (Region.ready .any rl.toArray listed).contains i
theorem htake (i : Nat) {d : Nat} {v : Value} (hi : rl[i]? = some o) (hB : takeB rl listed i = true) (hy : Yld P n S w0 ss ls o v) (hw : wantB rl.toArray ss o = some true) (hd : o.dst = some d) (hn : Nat.ble (d + 1) n = true) (hs : ∀ w, Sep S w0 w l → Sep S w0 w ls) (H : St n S w0 ss l a w)
    (K : ∀ a', St n S w0 ((d, v) :: ss) l a' w → wpAnyH P .any rl.toArray (NoPanic Q) (fun w => Sep S w0 w ls) fuel (listed.setIfInBounds i true) a' w) : wpAnyH P .any rl.toArray (NoPanic Q) (fun w => Sep S w0 w ls) (fuel + 1) listed a w := by
  simp only [takeB, Bool.and_eq_true] at hB
  refine wpAnyH_take (v := v) (by simpa using hi) hB.1.1 hB.1.2 hB.2 (fun c a w h => (h : False).elim) (.inl ⟨wanted_of H.fr hw, fun w' hs' => hy a w' H.fr hs'⟩) (hs _ H.sep) ?_
  rw [hd]
  exact K _ ⟨H.fr.put (Nat.lt_of_succ_le (Nat.le_of_ble_eq_true hn)) v, H.sep⟩
theorem hskip (i : Nat) {d : Nat} (hi : rl[i]? = some o) (hB : takeB rl listed i = true) (hw : wantB rl.toArray ss o = some false) (hd : o.dst = some d) (hn : Nat.ble (d + 1) n = true) (hs : ∀ w, Sep S w0 w l → Sep S w0 w ls) (H : St n S w0 ss l a w)
    (K : ∀ a', St n S w0 ((d, undef) :: ss) l a' w → wpAnyH P .any rl.toArray (NoPanic Q) (fun w => Sep S w0 w ls) fuel (listed.setIfInBounds i true) a' w) : wpAnyH P .any rl.toArray (NoPanic Q) (fun w => Sep S w0 w ls) (fuel + 1) listed a w := by
  simp only [takeB, Bool.and_eq_true] at hB
  refine wpAnyH_take (v := undef) (by simpa using hi) hB.1.1 hB.1.2 hB.2 (fun c a w h => (h : False).elim) (.inr ⟨wanted_of H.fr hw, rfl⟩) (hs _ H.sep) ?_
  rw [hd]
  exact K _ ⟨H.fr.put (Nat.lt_of_succ_le (Nat.le_of_ble_eq_true hn)) _, H.sep⟩
def onlyB (rl : List Oper) (listed : Array Bool) (i : Nat) : Bool := Region.ready .any rl.toArray listed == [i]
theorem hgo {T : World → Prop} (i : Nat) (hi : rl[i]? = some o) (hB : onlyB rl listed i = true) (h : wpList P rl.toArray (HQ P rl Q T fuel (listed.setIfInBounds i true)) [o] a w) : wpAnyH P .any rl.toArray (NoPanic Q) T (fuel + 1) listed a w := by
  have hB' : Region.ready .any rl.toArray listed = [i] := by simpa [onlyB] using hB
  refine wpAnyH_all hB' (by simp) fun j hj => ?_
  rw [List.mem_singleton.1 hj]
  unfold wpOp
  have hi' : rl.toArray[i]? = some o := by simpa using hi
  rw [hi']
  unfold wpList at h
  have hlo : ¬ LetsOut (HQ P rl Q T fuel (listed.setIfInBounds i true)) := by rintro ⟨a, w, h, _⟩; cases h
  show if _ then _ else _
  split
  · rename_i hw
    rw [if_pos hw] at h
    rcases h with h | ⟨_, h⟩
    · left
      unfold Oper.wp at h ⊢
      generalize (execOp a.eval o).run P w = r at h
      cases r with
      | ok nx w' =>
        cases nx <;> simp only [Oper.upon] at h ⊢
        case value v => exact h.2
        case skip => exact h.2
        case defer d => exact h.2
        case enter f args =>
          refine h.mono fun e w'' he => ?_
          cases e with
          | returned v => exact he.2
          | panicked c => cases he.1
          | outgrown => exact absurd he hlo
        case row r args => exact h.mono fun v w'' he => he.2
      | halt x w' =>
        cases x <;> simp only [Oper.upon] at h ⊢
        case panic v => cases h.1
    · exact absurd h hlo
  · rename_i hw
    rw [if_neg hw] at h
    exact h.2
theorem hfin {T : World → Prop} (hT : T w) (h : wpAnyH P .any rl.toArray (NoPanic Q) T fuel listed a w) : wpList P rl.toArray (HQ P rl Q T fuel listed) [] a w := ⟨rfl, hT, h⟩
def doneB (rl : List Oper) (listed : Array Bool) : Bool := (Region.ready .any rl.toArray listed).isEmpty
theorem hdone {T : World → Prop} (hB : doneB rl listed = true) (h : Q .normal a w) : wpAnyH P .any rl.toArray (NoPanic Q) T fuel listed a w :=
  wpAnyH_done (by simpa [doneB] using hB) (NoPanic.normal h) fuel
/-- Block b has n cells, of which the first are cs. -/
def It.pre (b : Nat) (E : TypeId) (n : Nat) (cs : List Value) : It where
  fp := [b]
  P := fun w => ∃ r, w.heap[b]? = some (.cells (cs ++ r).toArray E (0, 0)) ∧ (cs ++ r).length = n
  st := fun w w' h hp => by
    obtain ⟨r, h1, h2⟩ := hp
    exact ⟨r, (h b (by simp)).trans h1, h2⟩
  lt := fun w hp c hc => by
    obtain ⟨r, h1, h2⟩ := hp
    rw [List.mem_singleton.1 hc]
    exact (Array.getElem?_eq_some_iff.1 h1).1
theorem Sep.toPre {b n : Nat} {E : TypeId} {full cs : List Value} {l l' : List It} (h : Sep S w0 w l) (u : Upd l (It.blk b E full) (It.pre b E n cs) l') (hr : ∃ r, full = cs ++ r) (hn : full.length = n) : Sep S w0 w l' :=
  h.conv u (fun hp => by obtain ⟨r, e⟩ := hr; subst e; exact ⟨r, hp, hn⟩) (fun _ hb => hb)
theorem y_loadP {x : Operand} {t : TypeId} {b off m : Nat} {E : TypeId} {cs : List Value} {v : Value} (ho : o.op = .load t x) (ht : aggB P t = some false) (hx : evO ss x = some (.pointer (some ⟨b, off, none⟩))) (hm : It.pre b E m cs ∈ l) (hv : cs[off]? = some v) : Yld P n S w0 ss l o v :=
  y_load ho ht hx fun w hs => by
    obtain ⟨r, h1, _⟩ := hs.all _ hm
    rw [cell_blk h1]
    have hlt : off < cs.length := (List.getElem?_eq_some_iff.1 hv).1
    simp only [List.getElem?_toArray]
    rw [List.getElem?_append_left hlt, hv]
end Go.Sx

/- Own words: two calls or stores that may come up in either order. -/
set_option linter.unusedVariables false
set_option linter.unusedSimpArgs false
namespace Go.Sx
open Go.RowKit
variable {P : Program} {n : Nat} {S : List Nat} {w0 : World} {ss : List (Nat × Value)} {l ls : List It}
variable {rl : List Oper} {Q : Exit → Act → World → Prop} {o o' : Oper} {a : Act} {w : World} {fuel : Nat} {listed : Array Bool}
theorem wpOp_of_list {T : World → Prop} (i : Nat) (hi : rl[i]? = some o) (h : wpList P rl.toArray (HQ P rl Q T fuel (listed.setIfInBounds i true)) [o] a w) :
    wpOp P rl.toArray (NoPanic Q) i (fun a' w' => T w' ∧ wpAnyH P .any rl.toArray (NoPanic Q) T fuel (listed.setIfInBounds i true) a' w') a w := by
  unfold wpOp
  have hi' : rl.toArray[i]? = some o := by simpa using hi
  rw [hi']
  unfold wpList at h
  have hlo : ¬ LetsOut (HQ P rl Q T fuel (listed.setIfInBounds i true)) := by rintro ⟨a, w, h, _⟩; cases h
  show if _ then _ else _
  split
  · rename_i hw
    rw [if_pos hw] at h
    rcases h with h | ⟨_, h⟩
    · left
      unfold Oper.wp at h ⊢
      generalize (execOp a.eval o).run P w = r at h
      cases r with
      | ok nx w' =>
        cases nx <;> simp only [Oper.upon] at h ⊢
        case value v => exact h.2
        case skip => exact h.2
        case defer d => exact h.2
        case enter f args =>
          refine h.mono fun e w'' he => ?_
          cases e with
          | returned v => exact he.2
          | panicked c => cases he.1
          | outgrown => exact absurd he hlo
        case row r args => exact h.mono fun v w'' he => he.2
      | halt x w' =>
        cases x <;> simp only [Oper.upon] at h ⊢
        case panic v => cases h.1
    · exact absurd h hlo
  · rename_i hw
    rw [if_neg hw] at h
    exact h.2
def bothB (rl : List Oper) (listed : Array Bool) (i j : Nat) : Bool := Region.ready .any rl.toArray listed == [i, j]
theorem hgo2 {T : World → Prop} (i j : Nat) (hi : rl[i]? = some o) (hj : rl[j]? = some o') (hB : bothB rl listed i j = true) (h : wpList P rl.toArray (HQ P rl Q T fuel (listed.setIfInBounds i true)) [o] a w) (h' : wpList P rl.toArray (HQ P rl Q T fuel (listed.setIfInBounds j true)) [o'] a w) :
    wpAnyH P .any rl.toArray (NoPanic Q) T (fuel + 1) listed a w := by
  have hB' : Region.ready .any rl.toArray listed = [i, j] := by simpa [bothB] using hB
  refine wpAnyH_all hB' (by simp) fun k hk => ?_
  simp only [List.mem_cons, List.not_mem_nil, or_false] at hk
  rcases hk with rfl | rfl
  · exact wpOp_of_list _ hi h
  · exact wpOp_of_list _ hj h'
def threeB (rl : List Oper) (listed : Array Bool) (i j k : Nat) : Bool := Region.ready .any rl.toArray listed == [i, j, k]
theorem hgo3 {T : World → Prop} {o'' : Oper} (i j k : Nat) (hi : rl[i]? = some o) (hj : rl[j]? = some o') (hk : rl[k]? = some o'') (hB : threeB rl listed i j k = true) (h : wpList P rl.toArray (HQ P rl Q T fuel (listed.setIfInBounds i true)) [o] a w) (h' : wpList P rl.toArray (HQ P rl Q T fuel (listed.setIfInBounds j true)) [o'] a w)
    (h'' : wpList P rl.toArray (HQ P rl Q T fuel (listed.setIfInBounds k true)) [o''] a w) :
    wpAnyH P .any rl.toArray (NoPanic Q) T (fuel + 1) listed a w := by
  have hB' : Region.ready .any rl.toArray listed = [i, j, k] := by simpa [threeB] using hB
  refine wpAnyH_all hB' (by simp) fun m hm => ?_
  simp only [List.mem_cons, List.not_mem_nil, or_false] at hm
  rcases hm with rfl | rfl | rfl
  · exact wpOp_of_list _ hi h
  · exact wpOp_of_list _ hj h'
  · exact wpOp_of_list _ hk h''
end Go.Sx

/- Own words: lists of hashes. -/
set_option linter.unusedVariables false
set_option linter.unusedSimpArgs false
namespace Go.Sx
open Go.RowKit
variable {P : Program} {n : Nat} {S : List Nat} {w0 w : World} {ss : List (Nat × Value)} {l : List It} {o : Oper} {a : Act}
theorem lay_agg {z : Nat} {base vs : List Value} {v : Value} (hv : v.cells.toList = vs) (hz : vs.length = z) (hb : base.length = z) : lay (fun i => some (i * z, z)) base [(0, v)] = some vs := by
  have e : spl base 0 vs = vs := spl_all (by rw [hz, hb])
  simp only [lay, hv, hz, hb, Nat.zero_mul, Nat.zero_add, Nat.lt_irrefl, ne_eq, not_true_eq_false, or_self, if_false, e]
/-- The cells of a list of hashes. -/
def hc (p : List (List UInt8)) : List Value := (p.map fun h => h.map u8).flatten
def H32 (p : List (List UInt8)) : Prop := ∀ h ∈ p, h.length = 32
theorem hc_len : ∀ {p : List (List UInt8)}, H32 p → (hc p).length = p.length * 32
  | [], _ => rfl
  | h :: p, hp => by
    have ih := hc_len (p := p) (fun x hx => hp x (List.mem_cons_of_mem _ hx))
    have h1 := hp h (List.mem_cons_self ..)
    unfold hc at ih ⊢
    simp only [List.map_cons, List.flatten_cons, List.length_append, List.length_map, List.length_cons] at ih ⊢
    rw [ih, h1]
    omega
theorem hc_append (p q : List (List UInt8)) : hc (p ++ q) = hc p ++ hc q := by simp [hc]
theorem hc_one (h : List UInt8) : hc [h] = h.map u8 := by simp [hc]
theorem hc_cell (p : List (List UInt8)) : ∀ u ∈ hc p, u.oneCell' = true := by
  intro u hu
  simp only [hc, List.mem_flatten, List.mem_map] at hu
  obtain ⟨_, ⟨h, _, rfl⟩, hu⟩ := hu
  obtain ⟨b, _, rfl⟩ := List.mem_map.1 hu
  rfl
theorem hc_take : ∀ {p : List (List UInt8)} (i : Nat), H32 p → i < p.length → ((hc p).drop (i * 32)).take 32 = (p.getD i []).map u8
  | [], i, _, h => by simp at h
  | x :: p, 0, hp, _ => by
    have h1 := hp x (List.mem_cons_self ..)
    show (((hc (x :: p)).drop 0).take 32) = x.map u8
    rw [List.drop_zero]
    show ((x.map u8) ++ (p.map fun h => h.map u8).flatten).take 32 = _
    rw [List.take_left' (by rw [List.length_map, h1])]
  | x :: p, i + 1, hp, h => by
    have h1 := hp x (List.mem_cons_self ..)
    have ih := hc_take (p := p) i (fun y hy => hp y (List.mem_cons_of_mem _ hy)) (by simpa using h)
    have e : hc (x :: p) = x.map u8 ++ hc p := rfl
    rw [e, List.drop_append, List.drop_eq_nil_of_le (by rw [List.length_map, h1]; omega), List.nil_append, List.length_map, h1, show (i + 1) * 32 - 32 = i * 32 by omega, ih]
    rfl
theorem H32.getD {p : List (List UInt8)} (h : H32 p) {i : Nat} (hi : i < p.length) : (p.getD i []).length = 32 := h _ (by rw [List.getD_eq_getElem?_getD, List.getElem?_eq_getElem hi]; exact List.getElem_mem _)
theorem hc_takes : ∀ {p : List (List UInt8)} (k : Nat), H32 p → (hc p).take (k * 32) = hc (p.take k)
  | [], k, _ => by simp [hc]
  | x :: p, 0, _ => by simp [hc]
  | x :: p, k + 1, hp => by
    have h1 := hp x (List.mem_cons_self ..)
    have ih := hc_takes (p := p) k (fun y hy => hp y (List.mem_cons_of_mem _ hy))
    have e : hc (x :: p) = x.map u8 ++ hc p := rfl
    rw [e, List.take_append, List.take_of_length_le (by rw [List.length_map, h1]; omega), List.length_map, h1, show (k + 1) * 32 - 32 = k * 32 by omega, ih]
    rfl
theorem H32.take {p : List (List UInt8)} (h : H32 p) (k : Nat) : H32 (p.take k) := fun x hx => h x (List.mem_of_mem_take hx)
theorem H32.append {p q : List (List UInt8)} (h : H32 p) (h' : H32 q) : H32 (p ++ q) := fun x hx => by rcases List.mem_append.1 hx with hx | hx; exact h x hx; exact h' x hx
theorem H32.one {h : List UInt8} (e : h.length = 32) : H32 [h] := fun x hx => by rw [List.mem_singleton.1 hx]; exact e
section
open Go.WideShapes
variable {H : Type} {enc : TypeId × Value → H} {W : World} {sp : Nat → Bool} {held : Bool} {t e u : TypeId} {cs : List Value}
/-- A list of hashes among the arguments. -/
theorem Tr.hashes (h : Tr enc P W sp held t cs) (ht : P.underlying t = some (.slice e)) (he : P.underlying e = some (.array 32 u)) (hu : P.underlying u = some (.int .u8)) (hn : P.cellsOf e = 32) (h1 : P.cellsOf u = 1) :
    ∃ A p c, cs = [.slice A p.length c] ∧ p.length ≤ c ∧ p.length ≤ 9223372036854775807 ∧ H32 p ∧ Rd W A (hc p) := by
  obtain ⟨a, m, c, hcs, hmc, hm, rows, hr, hR, hrow⟩ := h.sliceC ht (by rw [hn]; omega)
  obtain ⟨p, hp, h32⟩ := rows_map (f := fun x : List UInt8 => x.map Sx.u8) (p := fun x => x.length = 32) (rows := rows) (fun r hr => (hrow r hr).2.bytes he hu hn h1)
  subst hp
  have hl : p.length = m := by rw [← hr, List.length_map]
  subst hl
  exact ⟨a, p, c, hcs, hmc, hm, h32, hR⟩
end
end Go.Sx
