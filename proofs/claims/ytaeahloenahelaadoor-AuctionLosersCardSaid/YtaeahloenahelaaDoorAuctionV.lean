/- Auctions as cells. -/
import Derived.Test.YtaeahloenahelaaDoorAuction
import Derived.Test.YtaeahloenahelaaDoorNoteV
import Derived.Test.YtaeahloenahelaaDoorNoteA
import Derived.Test.YtaeahloenahelaaDoorInboxY
import Derived.Test.YtaeahloenahelaaDoorSxM
namespace Go.Auction
open Go.Sx
open Go.Note (Z I64 Bid)
open Go.Inbox (flat_lenM flat_takeM flat_getM flat_pre memD)
def bdc (l : List Bid) : List Value := (l.map Bid.cells).flatten
theorem bid_len {b : Bid} (h : b.tag.length = 32) : (Bid.cells b).length = 36 := by simp [Bid.cells, h]
theorem bdc_len {l : List Bid} (h : ∀ x ∈ l, Bid.Wf x) : (bdc l).length = l.length * 36 := flat_lenM l fun x hx => bid_len (h x hx).tag
theorem bdc_take {l : List Bid} (h : ∀ x ∈ l, Bid.Wf x) (i : Nat) (hi : i < l.length) : ((bdc l).drop (i * 36)).take 36 = Bid.cells (l.getD i Bid.zero) := flat_takeM _ l i (fun x hx => bid_len (h x hx).tag) hi
theorem bdc_at {l : List Bid} (h : ∀ x ∈ l, Bid.Wf x) {k c : Nat} (hk : k < l.length) (hc : c < 36) : (bdc l)[k * 36 + c]? = (Bid.cells (l.getD k Bid.zero))[c]? := flat_getM (f := Bid.cells) Bid.zero (fun x hx => bid_len (h x hx).tag) hk hc
theorem bdc_pre {l : List Bid} (h : ∀ x ∈ l, Bid.Wf x) (k : Nat) : bdc (l.take k) = (bdc l).take (k * 36) := flat_pre l k fun x hx => bid_len (h x hx).tag
theorem bdc_append (l m : List Bid) : bdc (l ++ m) = bdc l ++ bdc m := by simp [bdc]
theorem bdc_one (b : Bid) : bdc [b] = Bid.cells b := by simp [bdc]
theorem bdc_cell (l : List Bid) : ∀ u ∈ bdc l, u.oneCell' = true := by
  intro u hu
  simp only [bdc, List.mem_flatten, List.mem_map] at hu
  obtain ⟨cs, ⟨b, _, rfl⟩, hu⟩ := hu
  simp only [Bid.cells, List.mem_cons, List.mem_map] at hu
  rcases hu with rfl | rfl | rfl | rfl | ⟨x, _, rfl⟩ <;> rfl
theorem bid_cell (b : Bid) : ∀ u ∈ Bid.cells b, u.oneCell' = true := by
  rw [← bdc_one]
  exact bdc_cell _
theorem atD {l : List Bid} (h : ∀ x ∈ l, Bid.Wf x) {k : Nat} (hk : k < l.length) : Bid.Wf (l.getD k Bid.zero) := h _ (by rw [Oct.getD_eq _ hk]; exact List.getElem_mem _)
def Win.cells (w : Win) : List Value := i64 w.bid.round :: i64 w.bid.who :: i64 w.bid.amount :: i64 w.bid.salt :: (w.bid.tag.map u8 ++ [i64 w.price])
theorem counts_mem (funds : List Int) (round floor : Int) : ∀ (l : List Bid) (x : Bid), x ∈ counts l funds round floor → x ∈ l := by
  intro l
  have key : ∀ (l out : List Bid) (x : Bid), x ∈ l.foldl (step funds round floor) out → x ∈ out ∨ x ∈ l := by
    intro l
    induction l with
    | nil => intro out x h; exact .inl h
    | cons b l ih =>
      intro out x h
      rcases ih _ x h with h | h
      · unfold step at h
        split at h
        · rcases List.mem_append.1 h with h | h
          · exact .inl h
          · rw [List.mem_singleton.1 h]; exact .inr List.mem_cons_self
        · exact .inl h
      · exact .inr (List.mem_cons_of_mem _ h)
  intro x h
  rcases key l [] x h with h | h
  · cases h
  · exact h
theorem counts_wf {l : List Bid} (h : ∀ x ∈ l, Bid.Wf x) (funds : List Int) (round floor : Int) : ∀ x ∈ counts l funds round floor, Bid.Wf x := fun x hx => h x (counts_mem _ _ _ _ x hx)
/-- Who has a bid that counts. -/
def byc (out : List Bid) : List Value := (List.range 64).map fun (k : Nat) => i64 (if (out.any fun x => decide (x.who = (k : Int))) then 1 else 0)
theorem byc_len (out : List Bid) : (byc out).length = 64 := by simp [byc]
theorem byc_at (out : List Bid) {n : Int} (h0 : 0 ≤ n) (h1 : n < 64) : (byc out)[n.toNat]? = some (i64 (if (out.any fun x => decide (x.who = n)) then 1 else 0)) := by
  have hn : n.toNat < 64 := by omega
  have e : ((n.toNat : Nat) : Int) = n := by omega
  simp [byc, List.getElem?_map, List.getElem?_range, hn, e]
theorem byc_set (out : List Bid) (b : Bid) (h0 : 0 ≤ b.who) (h1 : b.who < 64) : (byc out).set b.who.toNat (i64 1) = byc (out ++ [b]) := by
  apply List.ext_getElem?
  intro k
  by_cases hk : k < 64
  · by_cases e : b.who.toNat = k
    · subst e
      rw [List.getElem?_set_self (by rw [byc_len]; exact hk), byc_at _ h0 h1]
      simp
    · rw [List.getElem?_set_ne e]
      simp only [byc, List.getElem?_map, List.getElem?_range hk, Option.map_some, Option.some.injEq, List.any_append, List.any_cons, List.any_nil, Bool.or_false]
      have hne : ¬ b.who = (k : Int) := by omega
      simp [hne]
  · rw [List.getElem?_eq_none (by rw [List.length_set, byc_len]; omega), List.getElem?_eq_none (by rw [byc_len]; omega)]
theorem fresh_any {out : List Bid} {b : Bid} : fresh out b ↔ (out.any fun x => decide (x.who = b.who)) = false := by
  simp [fresh, List.any_eq_false]
/-- Where the best of the first j lies. -/
def ptr (l : List Bid) (A : Option Addr) (j : Nat) : Value := if j = 0 then .pointer none else .pointer (A.map (·.add (best l j * 36)))
theorem ptr_pos {l : List Bid} {A : Option Addr} {j : Nat} (h : ¬ j = 0) : ptr l A j = .pointer (A.map (·.add (best l j * 36))) := by unfold ptr; rw [if_neg h]
theorem ok_bounds {b : Bid} (h : b.ok = true) : (0 ≤ b.who ∧ b.who < 64) ∧ (0 ≤ b.amount ∧ b.amount ≤ 1099511627776) := by
  simp only [Bid.ok, Note.nums, Note.okNum, List.all_cons, List.all_nil, Bool.and_eq_true, decide_eq_true_eq] at h
  omega
theorem fresh_of {out : List Bid} {b : Bid} (h : ¬ (0 : Int) < (if (out.any fun x => decide (x.who = b.who)) = true then 1 else 0)) : fresh out b := by
  refine fresh_any.2 ?_
  cases e : (out.any fun x => decide (x.who = b.who)) with
  | false => rfl
  | true => rw [e] at h; simp at h
theorem stale_of {out : List Bid} {b : Bid} (h : (0 : Int) < (if (out.any fun x => decide (x.who = b.who)) = true then 1 else 0)) : ¬ fresh out b := fun hf => by
  rw [fresh_any.1 hf] at h
  simp at h
theorem has_in {fs : List Int} {b : Bid} (h : b.who < (fs.length : Int)) : has fs b = fs.getD b.who.toNat 0 := if_pos h
theorem has_out {fs : List Int} {b : Bid} (h : ¬ b.who < (fs.length : Int)) : has fs b = 0 := if_neg h
theorem rd_some {w : World} {A : Option Addr} {l : List Bid} {k : Nat} (hA : Rd w A (bdc l)) (hw : ∀ x ∈ l, Bid.Wf x) (hk : k < l.length) : ∃ ad, A = some ad := by
  rcases hA with h | ⟨ad, e, _⟩
  · have := bdc_len hw
    rw [h] at this
    simp at this
    omega
  · exact ⟨ad, e⟩
theorem ptr_new {l : List Bid} (A : Option Addr) {k : Nat} (h : k = 0 ∨ ahead (l.getD k Bid.zero) (l.getD (best l k) Bid.zero) = true) : Value.pointer (A.map (·.add ((k : Int).toNat * 36))) = ptr l A (k + 1) := by
  rw [ptr_pos (by omega), Int.toNat_natCast]
  rcases Nat.eq_zero_or_pos k with rfl | h0
  · rfl
  · rw [best_yes h0 (by rcases h with h | h; omega; exact h)]
theorem ptr_old {l : List Bid} (A : Option Addr) {k : Nat} (h0 : ¬ k = 0) (h : ¬ ahead (l.getD k Bid.zero) (l.getD (best l k) Bid.zero) = true) : Value.pointer (A.map (·.add (best l k * 36))) = ptr l A (k + 1) := by
  rw [ptr_pos (by omega), best_no (by omega) h]
theorem price_same {l : List Bid} {k : Nat} {fl : Int} {i : Nat} (h : i = k) : price l k fl (i + 1) = price l k fl i := if_pos h
theorem price_more {l : List Bid} {k : Nat} {fl : Int} {i : Nat} (h : ¬ i = k) : price l k fl (i + 1) = max (price l k fl i) (l.getD i Bid.zero).amount := if_neg h
theorem fine_who {round floor : Int} {all : List Bid} (hf : Fine round floor all) {i j : Nat} (hi : i < all.length) (hj : j < all.length) (h : (all.getD i Bid.zero).who = (all.getD j Bid.zero).who) : i = j := by
  exact hf.one i j hi hj h
theorem price_eq {round floor : Int} {all : List Bid} (hf : Fine round floor all) {i k : Nat} (fl : Int) (hi : i < all.length) (hk : k < all.length) (h : ¬ (all.getD i Bid.zero).who ≠ (all.getD k Bid.zero).who) : price all k fl (i + 1) = price all k fl i := price_same (fine_who hf hi hk (by omega))
theorem price_ne {all : List Bid} {i k : Nat} (fl : Int) (h : (all.getD i Bid.zero).who ≠ (all.getD k Bid.zero).who) : price all k fl (i + 1) = max (price all k fl i) (all.getD i Bid.zero).amount := price_more (fun e => h (by rw [e]))
def sees (out : List Bid) (b : Bid) (j : Nat) : Bool := (out.take j).all fun z => decide (z.who ≠ b.who)
def A1 : Bid := (Note.signBid ⟨1, 1, 10, 0, Z⟩).1
def A2 : Bid := (Note.signBid ⟨1, 2, 7, 0, Z⟩).1
theorem A1_is : A1 = ⟨1, 1, 10, 0, A1.tag⟩ := by unfold A1; rw [Note.sign_ok (by decide)]
theorem A2_is : A2 = ⟨1, 2, 7, 0, A2.tag⟩ := by unfold A2; rw [Note.sign_ok (by decide)]
theorem A1_ok : Note.checkBid A1 = 0 := Note.check_sign (by decide)
theorem A2_ok : Note.checkBid A2 = 0 := Note.check_sign (by decide)
theorem A1_who : A1.round = 1 ∧ A1.who = 1 ∧ A1.amount = 10 ∧ A1.salt = 0 := by rw [A1_is]; exact ⟨rfl, rfl, rfl, rfl⟩
theorem A2_who : A2.round = 1 ∧ A2.who = 2 ∧ A2.amount = 7 ∧ A2.salt = 0 := by rw [A2_is]; exact ⟨rfl, rfl, rfl, rfl⟩
theorem A1_len : A1.tag.length = 32 := Note.sign_len _
theorem A2_len : A2.tag.length = 32 := Note.sign_len _
theorem A1_wf : Bid.Wf A1 := by
  obtain ⟨h1, h2, h3, h4⟩ := A1_who
  exact ⟨by rw [h1]; exact ⟨by decide, by decide⟩, by rw [h2]; exact ⟨by decide, by decide⟩, by rw [h3]; exact ⟨by decide, by decide⟩, by rw [h4]; exact ⟨by decide, by decide⟩, A1_len⟩
theorem A2_wf : Bid.Wf A2 := by
  obtain ⟨h1, h2, h3, h4⟩ := A2_who
  exact ⟨by rw [h1]; exact ⟨by decide, by decide⟩, by rw [h2]; exact ⟨by decide, by decide⟩, by rw [h3]; exact ⟨by decide, by decide⟩, by rw [h4]; exact ⟨by decide, by decide⟩, A2_len⟩
theorem A_wf : ∀ x ∈ [A2, A1], Bid.Wf x := by
  intro x hx
  simp only [List.mem_cons, List.not_mem_nil, or_false] at hx
  rcases hx with rfl | rfl
  · exact A2_wf
  · exact A1_wf
theorem aw_counts (n : Int) (h : 0 ≤ n) : counts [A2, A1] [0, 10, n] 1 3 = (if 7 ≤ n then [A2] else []) ++ [A1] := by
  obtain ⟨a1, a2, a3, a4⟩ := A1_who
  obtain ⟨b1, b2, b3, b4⟩ := A2_who
  have e : counts [A2, A1] [0, 10, n] 1 3 = step [0, 10, n] 1 3 (step [0, 10, n] 1 3 [] A2) A1 := by
    unfold counts
    simp only [List.foldl_cons, List.foldl_nil]
  have s2 : step [0, 10, n] 1 3 [] A2 = if 7 ≤ n then [A2] else [] := by
    have hh : has [0, 10, n] A2 = n := by
      unfold has
      rw [b2]
      rfl
    unfold step
    rw [hh, b3]
    by_cases h7 : 7 ≤ n
    · rw [if_pos h7, if_pos ⟨⟨A2_ok, b1, by omega⟩, by simp [fresh], h7⟩]; rfl
    · rw [if_neg h7, if_neg (fun x => h7 x.2.2)]
  have s1 : ∀ out, (∀ x ∈ out, x = A2) → step [0, 10, n] 1 3 out A1 = out ++ [A1] := by
    intro out ho
    refine step_yes ⟨⟨A1_ok, a1, by omega⟩, fun x hx => by rw [ho x hx]; omega, ?_⟩
    have hh : has [0, 10, n] A1 = 10 := by
      unfold has
      rw [a2]
      rfl
    rw [hh, a3]
    decide
  rw [e, s2, s1 _ (by split <;> simp)]
theorem aw_win1 : win [A2, A1] [0, 10, 10] 1 3 = (⟨A1, 7⟩, true) := by
  obtain ⟨a1, a2, a3, a4⟩ := A1_who
  obtain ⟨b1, b2, b3, b4⟩ := A2_who
  unfold win
  rw [aw_counts 10 (by decide), if_pos (by decide)]
  have hb : best [A2, A1] 2 = 1 := best_yes (l := [A2, A1]) (i := 1) (by decide) (by
    show ahead A1 A2 = true
    unfold ahead
    rw [a3, b3]
    decide)
  show winOf [A2, A1] 3 = _
  unfold winOf
  rw [if_neg (by simp)]
  show ((⟨[A2, A1].getD (best [A2, A1] 2) Bid.zero, price [A2, A1] (best [A2, A1] 2) 3 2⟩, true) : Win × Bool) = _
  rw [hb]
  have hp : price [A2, A1] 1 3 2 = 7 := by
    show (if 1 = 1 then (if 0 = 1 then (3 : Int) else max 3 A2.amount) else _) = _
    rw [if_pos rfl, if_neg (by decide), b3]
    decide
  rw [hp]
  rfl
theorem aw_win2 : win [A2, A1] [0, 10, 6] 1 3 = (⟨A1, 3⟩, true) := by
  unfold win
  rw [aw_counts 6 (by decide), if_neg (by decide)]
  rfl
theorem bdc_two (a b : Bid) : bdc [a, b] = Bid.cells a ++ Bid.cells b := by simp [bdc]
theorem win_tag {l : List Bid} (hw : ∀ x ∈ l, Bid.Wf x) (fs : List Int) (r fl : Int) : (win l fs r fl).1.bid.tag.length = 32 := by
  have hc := counts_wf hw fs r fl
  unfold win winOf
  split
  · exact Note.Z_len
  · rename_i h
    exact (atD hc (best_lt _ _ (Nat.pos_of_ne_zero h))).tag
theorem win_is (l : List Bid) (fs : List Int) (r fl : Int) : win l fs r fl = winOf (counts l fs r fl) fl := rfl
theorem win_two (l : List Bid) (fs : List Int) (r fl : Int) : (win l fs r fl).2 = decide ((0 : Int) < ((counts l fs r fl).length : Int)) := by
  rw [win_is, win_ok]
  exact decide_eq_decide.2 (by omega)
theorem win_yes {l : List Bid} {fs : List Int} {r fl : Int} (h : (win l fs r fl).2 = true) : 0 < (counts l fs r fl).length := by
  rw [win_two] at h
  have h' := of_decide_eq_true h
  omega
theorem lose {l : List Bid} {fs : List Int} {r fl : Int} {x : Bid} (h : (win l fs r fl).2 = true) (hx : x.amount < (win l fs r fl).1.bid.amount) :
    (win (l ++ [x]) fs r fl).2 = true ∧ (win (l ++ [x]) fs r fl).1.bid = (win l fs r fl).1.bid ∧ (win l fs r fl).1.price ≤ (win (l ++ [x]) fs r fl).1.price := by
  have hp := win_yes h
  rw [win_is] at hx h ⊢
  rw [win_is, counts_snoc]
  unfold step
  split
  · have hl := losers hp hx
    refine ⟨?_, hl.1, hl.2⟩
    rw [win_ok]
    exact decide_eq_true (by simp)
  · exact ⟨h, rfl, Int.le_refl _⟩
section
variable {P : Program} {n : Nat} {S : List Nat} {w0 : World} {ss : List (Nat × Value)} {l : List It} {o : Oper}
theorem y_ptrNil {t t' e : TypeId} {x y : Operand} {L : List Bid} {A : Option Addr} {j : Nat} (ho : o.op = .binOp .eql t x y t') (ht : P.underlying t = some (.pointer e)) (hx : evO ss x = some (ptr L A j)) (hy : evO ss y = some (.pointer none)) (hA : ¬ j = 0 → ∃ ad, A = some ad) : Yld P n S w0 ss l o (.bool (decide (j = 0))) := by
  by_cases h : j = 0
  · rw [decide_eq_true h]
    subst h
    exact y_peql ho ht hx hy
  · rw [decide_eq_false h]
    obtain ⟨ad, rfl⟩ := hA h
    rw [ptr_pos h] at hx
    exact y_peql ho ht hx hy
theorem y_nilCk {x : Operand} {A : Option Addr} {k : Nat} (ho : o.op = .nilCheck x) (hx : evO ss x = some (.pointer (A.map (·.add k)))) (hA : ∃ ad, A = some ad) : Yld P n S w0 ss l o (.pointer (A.map (·.add k))) := by
  obtain ⟨ad, rfl⟩ := hA
  exact y_nilCheck ho hx
end
/-- What a law of auctions is given. -/
structure Case where
  l : List Bid
  A : Option Addr
  c : Nat
  fs : List Int
  B : Option Addr
  e : Nat
  r : Int
  fl : Int
def Case.cells (x : Case) : List Value := [Value.slice x.A x.l.length x.c, Value.slice x.B x.fs.length x.e, i64 x.r, i64 x.fl]
def Case.Wf (W : World) (x : Case) : Prop := x.l.length ≤ x.c ∧ x.fs.length ≤ 9223372036854775807 ∧ (∀ b ∈ x.l, Bid.Wf b) ∧ Rd W x.A (bdc x.l) ∧ Rd W x.B (x.fs.map i64)
theorem flat_one : ∀ (l : List Int), ((l.map fun n => [i64 n]).flatten) = l.map i64
  | [] => rfl
  | n :: l => by simp [flat_one l]
end Go.Auction
namespace Go.Note
theorem bid_wf0 {b : Bid} (h : b.ok = true) (ht : b.tag.length = 32) : Bid.Wf b := by
  simp only [Bid.ok, nums, okNum, List.all_cons, List.all_nil, Bool.and_eq_true, decide_eq_true_eq] at h
  refine ⟨?_, ?_, ?_, ?_, ht⟩ <;> constructor <;> omega
end Go.Note
