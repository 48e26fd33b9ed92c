/- Part of a proof about given Go functions: contracts of functions, or plain laws. -/
import Derived.Test.YtaeahloenahelaaDoorS5
import Derived.Test.YtaeahloenahelaaDoorS6
import Derived.Test.YtaeahloenahelaaDoorS4
import Derived.Test.YtaeahloenahelaaDoorS3
import Derived.Test.YtaeahloenahelaaDoorS1
import Derived.Test.YtaeahloenahelaaDoorS2
/- Auctions as cells. -/
namespace Go.Auction
open Go.Sx
open Go.Note (Z I64 Bid)
open Go.Inbox (flat_lenM flat_takeM flat_getM flat_pre memD)
def bdc (l : List Bid) : List Value := (l.map Bid.cells).flatten
theorem bid_len {b : Bid} (h : b.tag.length = 32) : (Bid.cells b).length = 36 := by simp [Bid.cells, h]
theorem bdc_len {l : List Bid} (h : ∀ x ∈ l, Bid.Wf x) : (bdc l).length = l.length * 36 := flat_lenM l fun x hx => bid_len (h x hx).tag
theorem bdc_take {l : List Bid} (h : ∀ x ∈ l, Bid.Wf x) (i : Nat) (hi : i < l.length) : ((bdc l).drop (i * 36)).take 36 = Bid.cells (l.getD i Bid.zero) := flat_takeM _ l i (fun x hx => bid_len (h x hx).tag) hi
theorem bdc_append (l m : List Bid) : bdc (l ++ m) = bdc l ++ bdc m := by simp [bdc]
theorem bdc_one (b : Bid) : bdc [b] = Bid.cells b := by simp [bdc]
theorem bdc_cell (l : List Bid) : ∀ u ∈ bdc l, u.oneCell' = true := by
  intro u hu
  simp only [bdc, List.mem_flatten, List.mem_map] at hu
  obtain ⟨cs, ⟨b, _, rfl⟩, hu⟩ := hu
  simp only [Bid.cells, List.mem_cons, List.mem_map] at hu
  rcases hu with rfl | rfl | rfl | rfl | ⟨x, _, rfl⟩ <;> rfl
theorem bid_cell (b : Bid) : ∀ u ∈ Bid.cells b, u.oneCell' = true := by
  rw [← bdc_one]
  exact bdc_cell _
theorem atD {l : List Bid} (h : ∀ x ∈ l, Bid.Wf x) {k : Nat} (hk : k < l.length) : Bid.Wf (l.getD k Bid.zero) := h _ (by rw [Oct.getD_eq _ hk]; exact List.getElem_mem _)
def Win.cells (w : Win) : List Value := i64 w.bid.round :: i64 w.bid.who :: i64 w.bid.amount :: i64 w.bid.salt :: (w.bid.tag.map u8 ++ [i64 w.price])
theorem counts_mem (funds : List Int) (round floor : Int) : ∀ (l : List Bid) (x : Bid), x ∈ counts l funds round floor → x ∈ l := by
  intro l
  have key : ∀ (l out : List Bid) (x : Bid), x ∈ l.foldl (step funds round floor) out → x ∈ out ∨ x ∈ l := by
    intro l
    induction l with
    | nil => intro out x h; exact .inl h
    | cons b l ih =>
      intro out x h
      rcases ih _ x h with h | h
      · unfold step at h
        split at h
        · rcases List.mem_append.1 h with h | h
          · exact .inl h
          · rw [List.mem_singleton.1 h]; exact .inr List.mem_cons_self
        · exact .inl h
      · exact .inr (List.mem_cons_of_mem _ h)
  intro x h
  rcases key l [] x h with h | h
  · cases h
  · exact h
theorem counts_wf {l : List Bid} (h : ∀ x ∈ l, Bid.Wf x) (funds : List Int) (round floor : Int) : ∀ x ∈ counts l funds round floor, Bid.Wf x := fun x hx => h x (counts_mem _ _ _ _ x hx)
/-- Who has a bid that counts. -/
def byc (out : List Bid) : List Value := (List.range 64).map fun (k : Nat) => i64 (if (out.any fun x => decide (x.who = (k : Int))) then 1 else 0)
theorem byc_len (out : List Bid) : (byc out).length = 64 := by simp [byc]
theorem byc_at (out : List Bid) {n : Int} (h0 : 0 ≤ n) (h1 : n < 64) : (byc out)[n.toNat]? = some (i64 (if (out.any fun x => decide (x.who = n)) then 1 else 0)) := by
  have hn : n.toNat < 64 := by omega
  have e : ((n.toNat : Nat) : Int) = n := by omega
  simp [byc, List.getElem?_map, List.getElem?_range, hn, e]
theorem byc_set (out : List Bid) (b : Bid) (h0 : 0 ≤ b.who) (h1 : b.who < 64) : (byc out).set b.who.toNat (i64 1) = byc (out ++ [b]) := by
  apply List.ext_getElem?
  intro k
  by_cases hk : k < 64
  · by_cases e : b.who.toNat = k
    · subst e
      rw [List.getElem?_set_self (by rw [byc_len]; exact hk), byc_at _ h0 h1]
      simp
    · rw [List.getElem?_set_ne e]
      simp only [byc, List.getElem?_map, List.getElem?_range hk, Option.map_some, Option.some.injEq, List.any_append, List.any_cons, List.any_nil, Bool.or_false]
      have hne : ¬ b.who = (k : Int) := by omega
      simp [hne]
  · rw [List.getElem?_eq_none (by rw [List.length_set, byc_len]; omega), List.getElem?_eq_none (by rw [byc_len]; omega)]
theorem fresh_any {out : List Bid} {b : Bid} : fresh out b ↔ (out.any fun x => decide (x.who = b.who)) = false := by
  simp [fresh, List.any_eq_false]
/-- Where the best of the first j lies. -/
def ptr (l : List Bid) (A : Option Addr) (j : Nat) : Value := if j = 0 then .pointer none else .pointer (A.map (·.add (best l j * 36)))
theorem ptr_pos {l : List Bid} {A : Option Addr} {j : Nat} (h : ¬ j = 0) : ptr l A j = .pointer (A.map (·.add (best l j * 36))) := by unfold ptr; rw [if_neg h]
theorem ok_bounds {b : Bid} (h : b.ok = true) : (0 ≤ b.who ∧ b.who < 64) ∧ (0 ≤ b.amount ∧ b.amount ≤ 1099511627776) := by
  simp only [Bid.ok, Note.nums, Note.okNum, List.all_cons, List.all_nil, Bool.and_eq_true, decide_eq_true_eq] at h
  omega
theorem fresh_of {out : List Bid} {b : Bid} (h : ¬ (0 : Int) < (if (out.any fun x => decide (x.who = b.who)) = true then 1 else 0)) : fresh out b := by
  refine fresh_any.2 ?_
  cases e : (out.any fun x => decide (x.who = b.who)) with
  | false => rfl
  | true => rw [e] at h; simp at h
theorem stale_of {out : List Bid} {b : Bid} (h : (0 : Int) < (if (out.any fun x => decide (x.who = b.who)) = true then 1 else 0)) : ¬ fresh out b := fun hf => by
  rw [fresh_any.1 hf] at h
  simp at h
theorem has_in {fs : List Int} {b : Bid} (h : b.who < (fs.length : Int)) : has fs b = fs.getD b.who.toNat 0 := if_pos h
theorem has_out {fs : List Int} {b : Bid} (h : ¬ b.who < (fs.length : Int)) : has fs b = 0 := if_neg h
theorem rd_some {w : World} {A : Option Addr} {l : List Bid} {k : Nat} (hA : Rd w A (bdc l)) (hw : ∀ x ∈ l, Bid.Wf x) (hk : k < l.length) : ∃ ad, A = some ad := by
  rcases hA with h | ⟨ad, e, _⟩
  · have := bdc_len hw
    rw [h] at this
    simp at this
    omega
  · exact ⟨ad, e⟩
theorem ptr_new {l : List Bid} (A : Option Addr) {k : Nat} (h : k = 0 ∨ ahead (l.getD k Bid.zero) (l.getD (best l k) Bid.zero) = true) : Value.pointer (A.map (·.add ((k : Int).toNat * 36))) = ptr l A (k + 1) := by
  rw [ptr_pos (by omega), Int.toNat_natCast]
  rcases Nat.eq_zero_or_pos k with rfl | h0
  · rfl
  · rw [best_yes h0 (by rcases h with h | h; omega; exact h)]
theorem ptr_old {l : List Bid} (A : Option Addr) {k : Nat} (h0 : ¬ k = 0) (h : ¬ ahead (l.getD k Bid.zero) (l.getD (best l k) Bid.zero) = true) : Value.pointer (A.map (·.add (best l k * 36))) = ptr l A (k + 1) := by
  rw [ptr_pos (by omega), best_no (by omega) h]
theorem price_same {l : List Bid} {k : Nat} {fl : Int} {i : Nat} (h : i = k) : price l k fl (i + 1) = price l k fl i := if_pos h
theorem price_more {l : List Bid} {k : Nat} {fl : Int} {i : Nat} (h : ¬ i = k) : price l k fl (i + 1) = max (price l k fl i) (l.getD i Bid.zero).amount := if_neg h
theorem fine_who {round floor : Int} {all : List Bid} (hf : Fine round floor all) {i j : Nat} (hi : i < all.length) (hj : j < all.length) (h : (all.getD i Bid.zero).who = (all.getD j Bid.zero).who) : i = j := by
  exact hf.one i j hi hj h
theorem price_eq {round floor : Int} {all : List Bid} (hf : Fine round floor all) {i k : Nat} (fl : Int) (hi : i < all.length) (hk : k < all.length) (h : ¬ (all.getD i Bid.zero).who ≠ (all.getD k Bid.zero).who) : price all k fl (i + 1) = price all k fl i := price_same (fine_who hf hi hk (by omega))
theorem price_ne {all : List Bid} {i k : Nat} (fl : Int) (h : (all.getD i Bid.zero).who ≠ (all.getD k Bid.zero).who) : price all k fl (i + 1) = max (price all k fl i) (all.getD i Bid.zero).amount := price_more (fun e => h (by rw [e]))
def sees (out : List Bid) (b : Bid) (j : Nat) : Bool := (out.take j).all fun z => decide (z.who ≠ b.who)
def A1 : Bid := (Note.signBid ⟨1, 1, 10, 0, Z⟩).1
def A2 : Bid := (Note.signBid ⟨1, 2, 7, 0, Z⟩).1
theorem A1_is : A1 = ⟨1, 1, 10, 0, A1.tag⟩ := by unfold A1; rw [Note.sign_ok (by decide)]
theorem A2_is : A2 = ⟨1, 2, 7, 0, A2.tag⟩ := by unfold A2; rw [Note.sign_ok (by decide)]
theorem A1_ok : Note.checkBid A1 = 0 := Note.check_sign (by decide)
theorem A2_ok : Note.checkBid A2 = 0 := Note.check_sign (by decide)
theorem A1_who : A1.round = 1 ∧ A1.who = 1 ∧ A1.amount = 10 ∧ A1.salt = 0 := by rw [A1_is]; exact ⟨rfl, rfl, rfl, rfl⟩
theorem A2_who : A2.round = 1 ∧ A2.who = 2 ∧ A2.amount = 7 ∧ A2.salt = 0 := by rw [A2_is]; exact ⟨rfl, rfl, rfl, rfl⟩
theorem A1_len : A1.tag.length = 32 := Note.sign_len _
theorem A2_len : A2.tag.length = 32 := Note.sign_len _
theorem A1_wf : Bid.Wf A1 := by
  obtain ⟨h1, h2, h3, h4⟩ := A1_who
  exact ⟨by rw [h1]; exact ⟨by decide, by decide⟩, by rw [h2]; exact ⟨by decide, by decide⟩, by rw [h3]; exact ⟨by decide, by decide⟩, by rw [h4]; exact ⟨by decide, by decide⟩, A1_len⟩
theorem A2_wf : Bid.Wf A2 := by
  obtain ⟨h1, h2, h3, h4⟩ := A2_who
  exact ⟨by rw [h1]; exact ⟨by decide, by decide⟩, by rw [h2]; exact ⟨by decide, by decide⟩, by rw [h3]; exact ⟨by decide, by decide⟩, by rw [h4]; exact ⟨by decide, by decide⟩, A2_len⟩
theorem A_wf : ∀ x ∈ [A2, A1], Bid.Wf x := by
  intro x hx
  simp only [List.mem_cons, List.not_mem_nil, or_false] at hx
  rcases hx with rfl | rfl
  · exact A2_wf
  · exact A1_wf
theorem aw_counts (n : Int) (h : 0 ≤ n) : counts [A2, A1] [0, 10, n] 1 3 = (if 7 ≤ n then [A2] else []) ++ [A1] := by
  obtain ⟨a1, a2, a3, a4⟩ := A1_who
  obtain ⟨b1, b2, b3, b4⟩ := A2_who
  have e : counts [A2, A1] [0, 10, n] 1 3 = step [0, 10, n] 1 3 (step [0, 10, n] 1 3 [] A2) A1 := by
    unfold counts
    simp only [List.foldl_cons, List.foldl_nil]
  have s2 : step [0, 10, n] 1 3 [] A2 = if 7 ≤ n then [A2] else [] := by
    have hh : has [0, 10, n] A2 = n := by
      unfold has
      rw [b2]
      rfl
    unfold step
    rw [hh, b3]
    by_cases h7 : 7 ≤ n
    · rw [if_pos h7, if_pos ⟨⟨A2_ok, b1, by omega⟩, by simp [fresh], h7⟩]; rfl
    · rw [if_neg h7, if_neg (fun x => h7 x.2.2)]
  have s1 : ∀ out, (∀ x ∈ out, x = A2) → step [0, 10, n] 1 3 out A1 = out ++ [A1] := by
    intro out ho
    refine step_yes ⟨⟨A1_ok, a1, by omega⟩, fun x hx => by rw [ho x hx]; omega, ?_⟩
    have hh : has [0, 10, n] A1 = 10 := by
      unfold has
      rw [a2]
      rfl
    rw [hh, a3]
    decide
  rw [e, s2, s1 _ (by split <;> simp)]
theorem aw_win1 : win [A2, A1] [0, 10, 10] 1 3 = (⟨A1, 7⟩, true) := by
  obtain ⟨a1, a2, a3, a4⟩ := A1_who
  obtain ⟨b1, b2, b3, b4⟩ := A2_who
  unfold win
  rw [aw_counts 10 (by decide), if_pos (by decide)]
  have hb : best [A2, A1] 2 = 1 := best_yes (l := [A2, A1]) (i := 1) (by decide) (by
    show ahead A1 A2 = true
    unfold ahead
    rw [a3, b3]
    decide)
  show winOf [A2, A1] 3 = _
  unfold winOf
  rw [if_neg (by simp)]
  show ((⟨[A2, A1].getD (best [A2, A1] 2) Bid.zero, price [A2, A1] (best [A2, A1] 2) 3 2⟩, true) : Win × Bool) = _
  rw [hb]
  have hp : price [A2, A1] 1 3 2 = 7 := by
    show (if 1 = 1 then (if 0 = 1 then (3 : Int) else max 3 A2.amount) else _) = _
    rw [if_pos rfl, if_neg (by decide), b3]
    decide
  rw [hp]
  rfl
theorem aw_win2 : win [A2, A1] [0, 10, 6] 1 3 = (⟨A1, 3⟩, true) := by
  unfold win
  rw [aw_counts 6 (by decide), if_neg (by decide)]
  rfl
theorem bdc_two (a b : Bid) : bdc [a, b] = Bid.cells a ++ Bid.cells b := by simp [bdc]
section
variable {P : Program} {n : Nat} {S : List Nat} {w0 : World} {ss : List (Nat × Value)} {l : List It} {o : Oper}
theorem y_ptrNil {t t' e : TypeId} {x y : Operand} {L : List Bid} {A : Option Addr} {j : Nat} (ho : o.op = .binOp .eql t x y t') (ht : P.underlying t = some (.pointer e)) (hx : evO ss x = some (ptr L A j)) (hy : evO ss y = some (.pointer none)) (hA : ¬ j = 0 → ∃ ad, A = some ad) : Yld P n S w0 ss l o (.bool (decide (j = 0))) := by
  by_cases h : j = 0
  · rw [decide_eq_true h]
    subst h
    exact y_peql ho ht hx hy
  · rw [decide_eq_false h]
    obtain ⟨ad, rfl⟩ := hA h
    rw [ptr_pos h] at hx
    exact y_peql ho ht hx hy
theorem y_nilCk {x : Operand} {A : Option Addr} {k : Nat} (ho : o.op = .nilCheck x) (hx : evO ss x = some (.pointer (A.map (·.add k)))) (hA : ∃ ad, A = some ad) : Yld P n S w0 ss l o (.pointer (A.map (·.add k))) := by
  obtain ⟨ad, rfl⟩ := hA
  exact y_nilCheck ho hx
end
/-- What a law of auctions is given. -/
structure Case where
  l : List Bid
  A : Option Addr
  c : Nat
  fs : List Int
  B : Option Addr
  e : Nat
  r : Int
  fl : Int
def Case.cells (x : Case) : List Value := [Value.slice x.A x.l.length x.c, Value.slice x.B x.fs.length x.e, i64 x.r, i64 x.fl]
def Case.Wf (W : World) (x : Case) : Prop := x.l.length ≤ x.c ∧ x.fs.length ≤ 9223372036854775807 ∧ (∀ b ∈ x.l, Bid.Wf b) ∧ Rd W x.A (bdc x.l) ∧ Rd W x.B (x.fs.map i64)
end Go.Auction
namespace Go.Note
theorem bid_wf0 {b : Bid} (h : b.ok = true) (ht : b.tag.length = 32) : Bid.Wf b := by
  simp only [Bid.ok, nums, okNum, List.all_cons, List.all_nil, Bool.and_eq_true, decide_eq_true_eq] at h
  refine ⟨?_, ?_, ?_, ?_, ht⟩ <;> constructor <;> omega
end Go.Note

/- What a bank answers, in plain Lean. -/
namespace Go.Bank
def wrong (nil : Bool) (amt : Int) (l : List Int) : Int :=
  if nil then 1 else if ∃ x ∈ l, x < 0 ∨ 64 ≤ x then 20 else if amt < 0 ∨ 1099511627776 < amt then 2 else 0
def Fine (l : List Int) (k : Nat) : Prop := ∀ x ∈ l.take k, 0 ≤ x ∧ x < 64
theorem Fine.zero (l : List Int) : Fine l 0 := by simp [Fine]
theorem Fine.succ {l : List Int} {k : Nat} (h : Fine l k) (hk : k < l.length) (h0 : ¬ l.getD k 0 < 0) (h1 : ¬ 64 ≤ l.getD k 0) : Fine l (k + 1) := by
  intro x hx
  rw [Oct.take_succ 0 hk] at hx
  rcases List.mem_append.1 hx with hx | hx
  · exact h x hx
  · rw [List.mem_singleton.1 hx]; omega
theorem Fine.all {l : List Int} {k : Nat} (h : Fine l k) (hk : l.length ≤ k) : ¬ ∃ x ∈ l, x < 0 ∨ 64 ≤ x := by
  rintro ⟨x, hx, h'⟩
  have := h x (by rw [List.take_of_length_le hk]; exact hx)
  omega
/-- What everybody has. -/
structure Ok (L : List Int) : Prop where
  len : L.length = 64
  all : ∀ k, 0 ≤ L.getD k 0 ∧ L.getD k 0 ≤ 1099511627776
theorem Ok.zero : Ok (List.replicate 64 0) := ⟨by simp, fun k => by
  rw [List.getD_eq_getElem?_getD, List.getElem?_replicate]; split <;> simp⟩
theorem Ok.set {L : List Int} (h : Ok L) {k : Nat} {x : Int} (h0 : 0 ≤ x) (h1 : x ≤ 1099511627776) : Ok (L.set k x) := ⟨by simp [h.len], fun j => by
  have := h.all j
  rw [List.getD_eq_getElem?_getD] at this ⊢
  rw [List.getElem?_set]
  split
  · rename_i e; subst e
    split
    · exact ⟨h0, h1⟩
    · simp
  · exact this⟩
def at_ (L : List Int) (w : Int) : Int := L.getD w.toNat 0
def put (L : List Int) (who amt : Int) : Int × List Int :=
  if wrong false amt [who] ≠ 0 then (wrong false amt [who], L) else if 1099511627776 - at_ L who < amt then (3, L) else (0, L.set who.toNat (at_ L who + amt))
def take (L : List Int) (who amt : Int) : Int × List Int :=
  if wrong false amt [who] ≠ 0 then (wrong false amt [who], L) else if at_ L who < amt then (28, L) else (0, L.set who.toNat (at_ L who - amt))
def move (L : List Int) (f t amt : Int) : Int × List Int :=
  if wrong false amt [f, t] ≠ 0 then (wrong false amt [f, t], L) else if at_ L f < amt then (28, L) else if f ≠ t ∧ 1099511627776 - at_ L t < amt then (3, L)
  else (0, (L.set f.toNat (at_ L f - amt)).set t.toNat (at_ (L.set f.toNat (at_ L f - amt)) t + amt))
def of (L : List Int) (w : Int) : Int := if w < 0 ∨ 64 ≤ w then 0 else at_ L w
structure Act where
  k : Int
  a : Int
  b : Int
  n : Int
def doo (L : List Int) (c : Act) : Int × List Int := if c.k = 0 ∨ c.k = 1 then put L c.a c.n else if c.k = 2 then take L c.a c.n else move L c.a c.b c.n
end Go.Bank

/- Own words: items chosen out of what is given, in any order. -/
set_option linter.unusedVariables false
set_option linter.unusedSimpArgs false
namespace Go.Sx
open Go.RowKit
variable {P : Program} {n : Nat} {S : List Nat} {w0 w : World} {ss : List (Nat × Value)} {l : List It} {a : Act}
theorem Sep.these {is lr : List It} (H : Sep S w0 w l) (hp : Picks l is lr) : Sep S w0 w is := (H.perm hp.perm.symm).sub (List.sublist_append_left _ _)
theorem St.only {is lr : List It} (H : St n S w0 ss l a w) (hp : Picks l is lr) : St n S w0 ss is a w := ⟨H.fr, H.sep.these hp⟩
end Go.Sx

/- Books of bids, as cells. -/
namespace Go.Auction
open Go.Sx
open Go.Note (Z I64 Bid)
open Go.Inbox (flat_lenM flat_takeM flat_getM flat_pre memD)
abbrev NV : Value := .slice none 0 0
abbrev Wfb (l : List Bid) : Prop := ∀ x ∈ l, Bid.Wf x
/-- What a bid is answered, by the bids of its round. -/
def bidE (floor : Int) (xs : List Bid) (x : Bid) (now : Int) : Int :=
  if Note.checkBid x ≠ 0 then Note.checkBid x else if x.round ≤ now then 26 else if x.amount < floor then 24 else if ¬ fresh xs x then 23 else if 32 ≤ xs.length then 25 else 0
def bidL (floor : Int) (xs : List Bid) (x : Bid) (now : Int) : List Bid := if bidE floor xs x now = 0 then xs ++ [x] else xs
theorem e_chk {floor : Int} {xs : List Bid} {x : Bid} {now : Int} (h : Note.checkBid x ≠ 0) : bidE floor xs x now = Note.checkBid x ∧ bidL floor xs x now = xs := by
  have e : bidE floor xs x now = Note.checkBid x := if_pos h
  exact ⟨e, by unfold bidL; rw [e, if_neg h]⟩
theorem e_late {floor : Int} {xs : List Bid} {x : Bid} {now : Int} (h : ¬ Note.checkBid x ≠ 0) (h1 : x.round ≤ now) : bidE floor xs x now = 26 ∧ bidL floor xs x now = xs := by
  have e : bidE floor xs x now = 26 := by unfold bidE; rw [if_neg h, if_pos h1]
  exact ⟨e, by unfold bidL; rw [e, if_neg (by decide)]⟩
theorem e_fee {floor : Int} {xs : List Bid} {x : Bid} {now : Int} (h : ¬ Note.checkBid x ≠ 0) (h1 : ¬ x.round ≤ now) (h2 : x.amount < floor) : bidE floor xs x now = 24 ∧ bidL floor xs x now = xs := by
  have e : bidE floor xs x now = 24 := by unfold bidE; rw [if_neg h, if_neg h1, if_pos h2]
  exact ⟨e, by unfold bidL; rw [e, if_neg (by decide)]⟩
theorem e_twice {floor : Int} {xs : List Bid} {x : Bid} {now : Int} (h : ¬ Note.checkBid x ≠ 0) (h1 : ¬ x.round ≤ now) (h2 : ¬ x.amount < floor) (h3 : ¬ fresh xs x) : bidE floor xs x now = 23 ∧ bidL floor xs x now = xs := by
  have e : bidE floor xs x now = 23 := by unfold bidE; rw [if_neg h, if_neg h1, if_neg h2, if_pos h3]
  exact ⟨e, by unfold bidL; rw [e, if_neg (by decide)]⟩
theorem e_full {floor : Int} {xs : List Bid} {x : Bid} {now : Int} (h : ¬ Note.checkBid x ≠ 0) (h1 : ¬ x.round ≤ now) (h2 : ¬ x.amount < floor) (h3 : fresh xs x) (h4 : 32 ≤ xs.length) : bidE floor xs x now = 25 ∧ bidL floor xs x now = xs := by
  have e : bidE floor xs x now = 25 := by unfold bidE; rw [if_neg h, if_neg h1, if_neg h2, if_neg (fun z => z h3), if_pos h4]
  exact ⟨e, by unfold bidL; rw [e, if_neg (by decide)]⟩
theorem e_ok {floor : Int} {xs : List Bid} {x : Bid} {now : Int} (h : ¬ Note.checkBid x ≠ 0) (h1 : ¬ x.round ≤ now) (h2 : ¬ x.amount < floor) (h3 : fresh xs x) (h4 : ¬ 32 ≤ xs.length) : bidE floor xs x now = 0 ∧ bidL floor xs x now = xs ++ [x] := by
  have e : bidE floor xs x now = 0 := by unfold bidE; rw [if_neg h, if_neg h1, if_neg h2, if_neg (fun z => z h3), if_neg h4]
  exact ⟨e, by unfold bidL; rw [e, if_pos rfl]⟩
theorem bidL_wf {floor : Int} {xs : List Bid} {x : Bid} {now : Int} (h : Wfb xs) (hx : Bid.Wf x) : Wfb (bidL floor xs x now) := by
  unfold bidL
  split
  · intro y hy
    rcases List.mem_append.1 hy with hy | hy
    · exact h y hy
    · rw [List.mem_singleton.1 hy]; exact hx
  · exact h
theorem bidL_len (floor : Int) (xs : List Bid) (x : Bid) (now : Int) : (bidL floor xs x now).length ≤ xs.length + 1 := by
  unfold bidL
  split
  · simp
  · omega
/-- What is found so far. -/
theorem fresh_at {xs : List Bid} {x : Bid} {k : Nat} (hk : xs.length ≤ k) (h : ∀ j, j < k → (xs.getD j Bid.zero).who ≠ x.who) : fresh xs x := fun y hy => by
  obtain ⟨j, hj, rfl⟩ := List.getElem_of_mem hy
  have := h j (by omega)
  rwa [Oct.getD_eq _ hj] at this
theorem not_fresh {xs : List Bid} {x : Bid} {k : Nat} (hk : k < xs.length) (h : (xs.getD k Bid.zero).who = x.who) : ¬ fresh xs x := fun hf => hf _ (by rw [Oct.getD_eq _ hk]; exact List.getElem_mem _) h
def of (L : List Bid) (r : Int) : List Bid := L.filter fun x => decide (x.round = r)
/-- The whole list, behind a bid. -/
def more (floor : Int) (L : List Bid) (x : Bid) (now : Int) : List Bid := if bidE floor (of L x.round) x now = 0 then L ++ [x] else L
/-! ### A map of slices -/
structure Keyed (f : Int → Option Value) (D : List (Int × Value)) : Prop where
  one : (D.map Prod.fst).Nodup
  at_ : ∀ p ∈ D, (f p.1).getD NV = p.2
  out : ∀ r, r ∉ D.map Prod.fst → f r = none
def Covers (L : List Bid) (D : List (Int × Value)) : Prop := ∀ r, r ∉ D.map Prod.fst → of L r = []
theorem Keyed.head {f : Int → Option Value} {D : List (Int × Value)} {r : Int} {v : Value} (h : Keyed f ((r, v) :: D)) : (f r).getD NV = v ∧ r ∉ D.map Prod.fst := ⟨h.at_ (r, v) List.mem_cons_self, by have := h.one; rw [List.map_cons, List.nodup_cons] at this; exact this.1⟩
theorem Keyed.swap {f g : Int → Option Value} {D : List (Int × Value)} {r : Int} {v u : Value} (h : Keyed f ((r, v) :: D)) (h1 : (g r).getD NV = u) (h2 : ∀ q, q ≠ r → g q = f q) : Keyed g ((r, u) :: D) := by
  refine ⟨h.one, fun p hp => ?_, fun q hq => ?_⟩
  · rcases List.mem_cons.1 hp with rfl | hp
    · exact h1
    · rw [h2 p.1 (fun e => h.head.2 (by rw [← e]; exact List.mem_map_of_mem hp))]
      exact h.at_ p (List.mem_cons_of_mem _ hp)
  · rw [List.map_cons, List.mem_cons, not_or] at hq
    rw [h2 q hq.1]
    exact h.out q (by rw [List.map_cons, List.mem_cons, not_or]; exact hq)
theorem Covers.swap {L M : List Bid} {D : List (Int × Value)} {r : Int} {v u : Value} (h : Covers L ((r, v) :: D)) (h2 : ∀ q, q ≠ r → of M q = of L q) : Covers M ((r, u) :: D) := fun q hq => by
  rw [List.map_cons, List.mem_cons, not_or] at hq
  rw [h2 q hq.1]
  exact h q (by rw [List.map_cons, List.mem_cons, not_or]; exact hq)
theorem mset_at {f : Int → Option Value} {r : Int} {v : Value} : (mset f r v r).getD NV = v := by simp [mset]
theorem mset_ne {f : Int → Option Value} {r : Int} {v : Value} {q : Int} (h : q ≠ r) : mset f r v q = f q := by simp [mset, h]
/-- One call of a law. -/
structure Act where
  kind : Int
  now : Int
  n : Int
  bid : Bid
def Act.zero : Act := ⟨0, 0, 0, Bid.zero⟩
def Act.cells (a : Act) : List Value := i64 a.kind :: i64 a.now :: i64 a.n :: i64 a.bid.round :: i64 a.bid.who :: i64 a.bid.amount :: i64 a.bid.salt :: a.bid.tag.map u8
structure Act.Wf (a : Act) : Prop where
  kind : I64 a.kind
  now : I64 a.now
  n : I64 a.n
  bid : Bid.Wf a.bid
theorem Act.Wf.len {a : Act} (h : a.Wf) : a.cells.length = 39 := by
  have := h.bid.tag
  simp [Act.cells, this]
end Go.Auction

/- Own words: an effect in a drawn region, said shortly. -/
set_option linter.unusedVariables false
namespace Go.Sx
open Go.RowKit
variable {P : Program} {S : List Nat} {w0 w : World} {l ls : List It} {a : Act} {rl : List Oper} {Q : Exit → Act → World → Prop} {fuel : Nat} {listed : Array Bool}
theorem hfinA (H : Sep S w0 w l) (h : wpAnyH P .any rl.toArray (NoPanic Q) (fun w => Sep S w0 w ls) fuel listed a w) (hs : ls.Sublist l := by repeat (first | exact S1 | exact S0 | apply S2 | apply S3)) : wpList P rl.toArray (HQ P rl Q (fun w => Sep S w0 w ls) fuel listed) [] a w := hfin (H.sub hs) h
end Go.Sx

/- The digest of "abc". -/
set_option maxRecDepth 20000
namespace Go.Sha
def abc : List UInt8 := [97, 98, 99]
end Go.Sha

/- The calls of a bank as cells. -/
namespace Go.Bank
open Go.Sx
def cells (c : Act) : List Value := [i64 c.k, i64 c.a, i64 c.b, i64 c.n]
def Wf (c : Act) : Prop := (-9223372036854775808 ≤ c.k ∧ c.k ≤ 9223372036854775807) ∧ (-9223372036854775808 ≤ c.a ∧ c.a ≤ 9223372036854775807) ∧ (-9223372036854775808 ≤ c.b ∧ c.b ≤ 9223372036854775807) ∧ (-9223372036854775808 ≤ c.n ∧ c.n ≤ 9223372036854775807)
end Go.Bank

/- What a bank answers: the laws, in plain Lean. -/
namespace Go.Bank
def A0 : Act := ⟨0, 0, 0, 0⟩
def L0 : List Int := List.replicate 64 0
def run (l : List Act) (k : Nat) : List Int := (l.take k).foldl (fun L c => (doo L c).2) L0
theorem run_zero (l : List Act) : run l 0 = L0 := by simp [run]
/-! ### Sums -/
end Go.Bank

/- Own words: a list of texts among the arguments: its room, and what each text weighs. -/
set_option linter.unusedVariables false
set_option linter.unusedSimpArgs false
namespace Go.Sx
open Go.RowKit Go.WideShapes Go.ChangeAt Go.ChangeShapes
section
variable {H : Type} {enc : TypeId × Value → H} {P : Program} {W : World} {base : Nat} {held : Bool}
theorem weightsAll_mem {e : TypeId} : ∀ {l : List (DataW H)} {d : DataW H} {z : Nat}, d ∈ l → z ∈ d.weights P e → z ∈ DataW.weightsAll P e l
  | [], _, _, h, _ => by cases h
  | x :: l, d, z, h, hz => by
    rw [DataW.weightsAll]
    rcases List.mem_cons.1 h with rfl | h
    · exact List.mem_append_left _ hz
    · exact List.mem_append_right _ (weightsAll_mem h hz)
end
end Go.Sx

/- Own words: a slice among the arguments, row by row, with what each row weighs. -/
set_option linter.unusedVariables false
set_option linter.unusedSimpArgs false
namespace Go.Sx
open Go.RowKit Go.WideShapes Go.ChangeAt Go.ChangeShapes
section
variable {H : Type} {enc : TypeId × Value → H} {P : Program} {W : World} {sp : Nat → Bool} {held : Bool} {t e : TypeId} {cs : List Value}
theorem Trw.sliceC (h : Trw enc P W sp held t cs) (ht : P.underlying t = some (.slice e)) (hz : 0 < P.cellsOf e) : ∃ a m c, cs = [.slice a m c] ∧ m ≤ c ∧ m ≤ 9223372036854775807 ∧ ∃ rows : List (List Value), rows.length = m ∧ Rd W a rows.flatten ∧ ∀ r ∈ rows, r.length = P.cellsOf e ∧ Trw enc P W sp held e r := by
  obtain ⟨fuel, x, hf, hw⟩ := h
  rcases Go.Deep.open_slice ht hf with ⟨h0, _⟩ | ⟨a, len, cap, m, n, D, Pl, h0, _, hl, hm, hmm, hx, hel⟩
  · exact ⟨none, 0, 0, h0, by omega, by omega, [], rfl, .inl rfl, by simp⟩
  · have hle : len ≤ m := by rw [hmm]; split <;> omega
    unfold maxLen at hm
    have hwd : ∀ i, i < len → ∀ z ∈ (D i).weights P e, z ≤ reachBytes := fun i hi z hz => by
      refine hw z ?_
      subst hx
      simp only [DataW.weights, ht]
      exact List.mem_cons_of_mem _ (List.mem_append_left _ (weightsAll_mem (List.mem_map.2 ⟨i, by simpa using hi, rfl⟩) hz))
    have hrow : ∀ i, i < len → ∃ cs', W.cells? 0 (a.add (i * P.cellsOf e)) (P.cellsOf e) = some cs' ∧ Trw enc P W sp held e cs' := fun i hi => by
      obtain ⟨cs', h1, h2⟩ := hel i (by omega)
      exact ⟨cs', h1, n, _, h2, hwd i hi⟩
    let f : Nat → List Value := fun i => (W.cells? 0 (a.add (i * P.cellsOf e)) (P.cellsOf e)).getD []
    have hf' : ∀ i, i < len → W.cells? 0 (a.add (i * P.cellsOf e)) (P.cellsOf e) = some (f i) ∧ Trw enc P W sp held e (f i) := fun i hi => by
      obtain ⟨cs', h1, h2⟩ := hrow i hi
      have : f i = cs' := by show (W.cells? 0 _ _).getD [] = cs'; rw [h1]; rfl
      rw [this]
      exact ⟨h1, h2⟩
    refine ⟨some a, len, cap, h0, hl, by omega, (List.range len).map f, by simp, ?_, ?_⟩
    · by_cases h00 : len = 0
      · subst h00; exact .inl rfl
      · right
        refine ⟨a, rfl, Rd.flat (z := P.cellsOf e) (fun r hr => ?_) hz fun i j v hv => ?_⟩
        · obtain ⟨i, hi, rfl⟩ := List.mem_map.1 hr
          exact (cells_get (hf' i (by simpa using hi)).1).1
        · have h00' := cells_get (hf' 0 (by omega)).1
          have c0 : ∃ u, W.cell? a = some u := by
            have h1 := h00'.2 0 hz
            rw [Nat.zero_mul, add_zero, add_zero] at h1
            exact ⟨_, by rw [h1]; exact List.getElem?_eq_getElem (by omega)⟩
          obtain ⟨u, hu⟩ := c0
          simp only [List.getElem?_map, Option.bind_eq_some_iff, Option.map_eq_some_iff] at hv
          obtain ⟨r, ⟨i', hi', rfl⟩, hv⟩ := hv
          have hi : i < len ∧ i' = i := by
            have := List.getElem?_eq_some_iff.1 hi'
            obtain ⟨h1, h2⟩ := this
            simp at h1 h2
            omega
          obtain ⟨hi, rfl⟩ := hi
          obtain ⟨h1, h2⟩ := cells_get (hf' i' hi).1
          have hj : j < P.cellsOf e := by
            have := (List.getElem?_eq_some_iff.1 hv).1
            omega
          rw [← add_add0 hu, h2 j hj]
          exact hv
    · intro r hr
      obtain ⟨i, hi, rfl⟩ := List.mem_map.1 hr
      have := hf' i (by simpa using hi)
      exact ⟨(cells_get this.1).1, this.2⟩
end
end Go.Sx
