/- The auction, in plain Lean. -/
import GoSem.Op.String
import Derived.Test.YtaeahloenahelaaDoorNoteA
import Derived.Test.YtaeahloenahelaaDoorInbox
namespace Go.Auction
open Go.Note
def name (b : Bid) : List UInt8 := Sha.sum (writeBid b).1 ++ (writeBid b).1
def has (funds : List Int) (b : Bid) : Int := if b.who < (funds.length : Int) then funds.getD b.who.toNat 0 else 0
def good (round floor : Int) (b : Bid) : Prop := checkBid b = 0 ∧ b.round = round ∧ floor ≤ b.amount
def fresh (out : List Bid) (b : Bid) : Prop := ∀ x ∈ out, x.who ≠ b.who
instance (round floor : Int) (b : Bid) : Decidable (good round floor b) := by unfold good; infer_instance
instance (out : List Bid) (b : Bid) : Decidable (fresh out b) := by unfold fresh; infer_instance
def step (funds : List Int) (round floor : Int) (out : List Bid) (b : Bid) : List Bid := if good round floor b ∧ fresh out b ∧ b.amount ≤ has funds b then out ++ [b] else out
/-- The bids that count. -/
def counts (l : List Bid) (funds : List Int) (round floor : Int) : List Bid := l.foldl (step funds round floor) []
def ahead (a b : Bid) : Bool := decide (b.amount < a.amount) || (decide (a.amount = b.amount) && Op.bytesLess (name a) (name b))
/-- The best of the first so many. -/
def best (l : List Bid) : Nat → Nat
  | 0 => 0
  | i + 1 => if i = 0 then 0 else if ahead (l.getD i Bid.zero) (l.getD (best l i) Bid.zero) = true then i else best l i
/-- The price, after so many, without one. -/
def price (l : List Bid) (k : Nat) (floor : Int) : Nat → Int
  | 0 => floor
  | i + 1 => if i = k then price l k floor i else max (price l k floor i) (l.getD i Bid.zero).amount
structure Win where
  bid : Bid
  price : Int
instance : DecidableEq Win := fun x y => decidable_of_iff (x.bid = y.bid ∧ x.price = y.price) (by cases x; cases y; simp)
def Win.zero : Win := ⟨Bid.zero, 0⟩
def winOf (all : List Bid) (floor : Int) : Win × Bool := if all.length = 0 then (Win.zero, false) else (⟨all.getD (best all all.length) Bid.zero, price all (best all all.length) floor all.length⟩, true)
def win (l : List Bid) (funds : List Int) (round floor : Int) : Win × Bool := winOf (counts l funds round floor) floor
/-! ### Orders of texts -/
theorem ahead_low {a b : Bid} (h : a.amount < b.amount) : ahead a b = false := by
  simp only [ahead, Bool.or_eq_false_iff, Bool.and_eq_false_iff, decide_eq_false_iff_not]
  omega
/-! ### The best -/
theorem best_lt (l : List Bid) : ∀ i, 0 < i → best l i < i
  | 0, h => absurd h (by omega)
  | i + 1, _ => by
    unfold best
    split
    · omega
    · split
      · omega
      · have := best_lt l i (by omega); omega
theorem best_yes {l : List Bid} {i : Nat} (h : 0 < i) (ha : ahead (l.getD i Bid.zero) (l.getD (best l i) Bid.zero) = true) : best l (i + 1) = i := by
  show (if i = 0 then 0 else if _ then i else best l i) = i
  rw [if_neg (by omega), if_pos ha]
theorem best_no {l : List Bid} {i : Nat} (h : 0 < i) (ha : ¬ ahead (l.getD i Bid.zero) (l.getD (best l i) Bid.zero) = true) : best l (i + 1) = best l i := by
  show (if i = 0 then 0 else if _ then i else best l i) = best l i
  rw [if_neg (by omega), if_neg ha]
theorem best_succ (l : List Bid) (i : Nat) : best l (i + 1) = if i = 0 then 0 else if ahead (l.getD i Bid.zero) (l.getD (best l i) Bid.zero) = true then i else best l i := rfl
theorem best_app {l : List Bid} {m : List Bid} (i : Nat) (h : i ≤ l.length) : best (l ++ m) i = best l i := by
  induction i with
  | zero => rfl
  | succ i ih =>
    rw [best_succ, best_succ, ih (by omega)]
    by_cases h0 : i = 0
    · rw [if_pos h0, if_pos h0]
    · have hb := best_lt l i (by omega)
      rw [if_neg h0, if_neg h0, Oct.getD_left _ _ (show i < l.length by omega), Oct.getD_left _ _ (show best l i < l.length by omega)]
/-! ### The price -/
theorem price_app {l m : List Bid} {k : Nat} {floor : Int} : ∀ {i : Nat}, i ≤ l.length → price (l ++ m) k floor i = price l k floor i
  | 0, _ => rfl
  | i + 1, h => by
    have e : price (l ++ m) k floor i = price l k floor i := price_app (by omega)
    unfold price
    rw [e, Oct.getD_left _ _ (by omega)]
/-! ### Those that count -/
theorem counts_snoc (l : List Bid) (x : Bid) (funds : List Int) (round floor : Int) : counts (l ++ [x]) funds round floor = step funds round floor (counts l funds round floor) x := by simp [counts]
theorem counts_take {l : List Bid} {k : Nat} (h : k < l.length) (funds : List Int) (round floor : Int) : counts (l.take (k + 1)) funds round floor = step funds round floor (counts (l.take k) funds round floor) (l.getD k Bid.zero) := by
  rw [Oct.take_succ Bid.zero h, counts_snoc]
theorem step_no {funds : List Int} {round floor : Int} {out : List Bid} {b : Bid} (h : ¬ (good round floor b ∧ fresh out b ∧ b.amount ≤ has funds b)) : step funds round floor out b = out := by unfold step; rw [if_neg h]
theorem step_yes {funds : List Int} {round floor : Int} {out : List Bid} {b : Bid} (h : good round floor b ∧ fresh out b ∧ b.amount ≤ has funds b) : step funds round floor out b = out ++ [b] := by unfold step; rw [if_pos h]
theorem check_ok {b : Bid} (h : checkBid b = 0) : b.ok = true := by
  unfold checkBid at h
  split at h
  · assumption
  · omega
structure Fine (round floor : Int) (all : List Bid) : Prop where
  good : ∀ b ∈ all, Auction.good round floor b
  one : ∀ i j, i < all.length → j < all.length → (all.getD i Bid.zero).who = (all.getD j Bid.zero).who → i = j
theorem fine_step {funds : List Int} {round floor : Int} {out : List Bid} (h : Fine round floor out) (b : Bid) : Fine round floor (step funds round floor out b) := by
  unfold step
  split
  · rename_i hb
    refine ⟨fun x hx => ?_, fun i j hi hj e => ?_⟩
    · rcases List.mem_append.1 hx with hx | hx
      · exact h.good x hx
      · rw [List.mem_singleton.1 hx]; exact hb.1
    · have hm : ∀ k, k < out.length → out.getD k Bid.zero ∈ out := fun k hk => by
        rw [List.getD_eq_getElem?_getD, List.getElem?_eq_getElem hk]
        exact List.getElem_mem hk
      simp only [List.length_append, List.length_cons, List.length_nil] at hi hj
      by_cases h1 : i < out.length
      · by_cases h2 : j < out.length
        · rw [Oct.getD_left _ _ h1, Oct.getD_left _ _ h2] at e
          exact h.one i j h1 h2 e
        · have : j = out.length := by omega
          subst this
          rw [Oct.getD_left _ _ h1, Oct.getD_at0] at e
          exact absurd e (hb.2.1 _ (hm i h1))
      · have : i = out.length := by omega
        subst this
        by_cases h2 : j < out.length
        · rw [Oct.getD_left _ _ h2, Oct.getD_at0] at e
          exact absurd e.symm (hb.2.1 _ (hm j h2))
        · omega
  · exact h
theorem fine_counts (funds : List Int) (round floor : Int) (l : List Bid) : Fine round floor (counts l funds round floor) := by
  unfold counts
  have : ∀ (l out : List Bid), Fine round floor out → Fine round floor (l.foldl (step funds round floor) out) := by
    intro l
    induction l with
    | nil => intro out h; exact h
    | cons b l ih => intro out h; exact ih _ (fine_step h b)
  exact this l [] ⟨fun b hb => absurd hb (by simp), fun i j hi => absurd hi (by simp)⟩
theorem counts_len (funds : List Int) (round floor : Int) (l : List Bid) : (counts l funds round floor).length ≤ l.length := by
  unfold counts
  have : ∀ (l out : List Bid), (l.foldl (step funds round floor) out).length ≤ out.length + l.length := by
    intro l
    induction l with
    | nil => intro out; simp
    | cons b l ih =>
      intro out
      have h1 := ih (step funds round floor out b)
      have h2 : (step funds round floor out b).length ≤ out.length + 1 := by unfold step; split <;> simp
      simp only [List.foldl_cons, List.length_cons]
      omega
  simpa using this l []
/-! ### Who wins -/
theorem win_none {all : List Bid} {floor : Int} (h : all.length = 0) : winOf all floor = (Win.zero, false) := by unfold winOf; rw [if_pos h]
theorem win_some {all : List Bid} {floor : Int} (h : 0 < all.length) : winOf all floor = (⟨all.getD (best all all.length) Bid.zero, price all (best all all.length) floor all.length⟩, true) := by unfold winOf; rw [if_neg (by omega)]
theorem win_ok {all : List Bid} {floor : Int} : (winOf all floor).2 = decide (0 < all.length) := by
  by_cases h : all.length = 0
  · rw [win_none h, h]; rfl
  · rw [win_some (by omega), decide_eq_true (by omega)]
theorem losers {all : List Bid} {floor : Int} {x : Bid} (h : 0 < all.length) (hx : x.amount < (winOf all floor).1.bid.amount) : (winOf (all ++ [x]) floor).1.bid = (winOf all floor).1.bid ∧ (winOf all floor).1.price ≤ (winOf (all ++ [x]) floor).1.price := by
  rw [win_some h] at hx ⊢
  rw [win_some (by simp)]
  have hl : (all ++ [x]).length = all.length + 1 := by simp
  have hb := best_lt all all.length h
  have e : best (all ++ [x]) all.length = best all all.length := best_app _ (Nat.le_refl _)
  have e1 : best (all ++ [x]) (all.length + 1) = best all all.length := by
    rw [best_no h, e]
    rw [e, Oct.getD_at0, Oct.getD_left _ _ hb]
    show ¬ ahead x _ = true
    rw [ahead_low hx]
    decide
  rw [hl, e1]
  refine ⟨Oct.getD_left _ _ hb, ?_⟩
  show _ ≤ (if all.length = best all all.length then _ else max _ _)
  rw [price_app (Nat.le_refl _), if_neg (by omega)]
  exact Int.le_max_left _ _
/-! ### Books -/
structure Book where
  floor : Int
  L : List Bid
def Book.bids (b : Book) (round : Int) : List Bid := b.L.filter fun x => decide (x.round = round)
def bid (b : Book) (x : Bid) (now : Int) : Book × Int :=
  if checkBid x ≠ 0 then (b, checkBid x)
  else if x.round ≤ now then (b, 26)
  else if x.amount < b.floor then (b, 24)
  else if ¬ fresh (b.bids x.round) x then (b, 23)
  else if 32 ≤ (b.bids x.round).length then (b, 25)
  else ({ b with L := b.L ++ [x] }, 0)
end Go.Auction
