/- What a bank answers, in plain Lean. -/
import Derived.Test.YtlaojmcpiggfeaaOct
namespace Go.Bank
def B40 : Int := 1099511627776
def wrong (nil : Bool) (amt : Int) (l : List Int) : Int :=
  if nil then 1 else if ∃ x ∈ l, x < 0 ∨ 64 ≤ x then 20 else if amt < 0 ∨ 1099511627776 < amt then 2 else 0
theorem wrong_nil (amt : Int) (l : List Int) : wrong true amt l = 1 := by simp [wrong]
theorem wrong_who {amt : Int} {l : List Int} {k : Nat} (hk : k < l.length) (h : l.getD k 0 < 0 ∨ 64 ≤ l.getD k 0) : wrong false amt l = 20 := by
  have : ∃ x ∈ l, x < 0 ∨ 64 ≤ x := ⟨l.getD k 0, by rw [Oct.getD_eq 0 hk]; exact List.getElem_mem hk, h⟩
  simp only [wrong, this, if_true, Bool.false_eq_true, if_false]
def Fine (l : List Int) (k : Nat) : Prop := ∀ x ∈ l.take k, 0 ≤ x ∧ x < 64
theorem Fine.zero (l : List Int) : Fine l 0 := by simp [Fine]
theorem Fine.succ {l : List Int} {k : Nat} (h : Fine l k) (hk : k < l.length) (h0 : ¬ l.getD k 0 < 0) (h1 : ¬ 64 ≤ l.getD k 0) : Fine l (k + 1) := by
  intro x hx
  rw [Oct.take_succ 0 hk] at hx
  rcases List.mem_append.1 hx with hx | hx
  · exact h x hx
  · rw [List.mem_singleton.1 hx]; omega
theorem Fine.all {l : List Int} {k : Nat} (h : Fine l k) (hk : l.length ≤ k) : ¬ ∃ x ∈ l, x < 0 ∨ 64 ≤ x := by
  rintro ⟨x, hx, h'⟩
  have := h x (by rw [List.take_of_length_le hk]; exact hx)
  omega
theorem wrong_amt {amt : Int} {l : List Int} (h : ¬ ∃ x ∈ l, x < 0 ∨ 64 ≤ x) (h1 : amt < 0 ∨ 1099511627776 < amt) : wrong false amt l = 2 := by
  simp only [wrong, h, h1, if_true, Bool.false_eq_true, if_false]
theorem wrong_ok {amt : Int} {l : List Int} (h : ¬ ∃ x ∈ l, x < 0 ∨ 64 ≤ x) (h1 : ¬ (amt < 0 ∨ 1099511627776 < amt)) : wrong false amt l = 0 := by
  simp only [wrong, h, h1, Bool.false_eq_true, if_false]

/-- What everybody has. -/
structure Ok (L : List Int) : Prop where
  len : L.length = 64
  all : ∀ k, 0 ≤ L.getD k 0 ∧ L.getD k 0 ≤ 1099511627776
theorem Ok.zero : Ok (List.replicate 64 0) := ⟨by simp, fun k => by
  rw [List.getD_eq_getElem?_getD, List.getElem?_replicate]; split <;> simp⟩
theorem Ok.set {L : List Int} (h : Ok L) {k : Nat} {x : Int} (h0 : 0 ≤ x) (h1 : x ≤ 1099511627776) : Ok (L.set k x) := ⟨by simp [h.len], fun j => by
  have := h.all j
  rw [List.getD_eq_getElem?_getD] at this ⊢
  rw [List.getElem?_set]
  split
  · rename_i e; subst e
    split
    · exact ⟨h0, h1⟩
    · simp
  · exact this⟩
def at_ (L : List Int) (w : Int) : Int := L.getD w.toNat 0
def put (L : List Int) (who amt : Int) : Int × List Int :=
  if wrong false amt [who] ≠ 0 then (wrong false amt [who], L) else if 1099511627776 - at_ L who < amt then (3, L) else (0, L.set who.toNat (at_ L who + amt))
def take (L : List Int) (who amt : Int) : Int × List Int :=
  if wrong false amt [who] ≠ 0 then (wrong false amt [who], L) else if at_ L who < amt then (28, L) else (0, L.set who.toNat (at_ L who - amt))
def move (L : List Int) (f t amt : Int) : Int × List Int :=
  if wrong false amt [f, t] ≠ 0 then (wrong false amt [f, t], L) else if at_ L f < amt then (28, L) else if f ≠ t ∧ 1099511627776 - at_ L t < amt then (3, L)
  else (0, (L.set f.toNat (at_ L f - amt)).set t.toNat (at_ (L.set f.toNat (at_ L f - amt)) t + amt))
def of (L : List Int) (w : Int) : Int := if w < 0 ∨ 64 ≤ w then 0 else at_ L w
theorem wrong1 {amt who : Int} (h : wrong false amt [who] = 0) : 0 ≤ who ∧ who < 64 ∧ 0 ≤ amt ∧ amt ≤ 1099511627776 := by
  unfold wrong at h
  simp only [Bool.false_eq_true, if_false] at h
  split at h
  · cases h
  · rename_i h1
    split at h
    · cases h
    · rename_i h2
      have : ¬ (who < 0 ∨ 64 ≤ who) := fun h' => h1 ⟨who, by simp, h'⟩
      omega
theorem wrong2 {amt f t : Int} (h : wrong false amt [f, t] = 0) : 0 ≤ f ∧ f < 64 ∧ 0 ≤ t ∧ t < 64 ∧ 0 ≤ amt ∧ amt ≤ 1099511627776 := by
  unfold wrong at h
  simp only [Bool.false_eq_true, if_false] at h
  split at h
  · cases h
  · rename_i h1
    split at h
    · cases h
    · rename_i h2
      have : ¬ (f < 0 ∨ 64 ≤ f) := fun h' => h1 ⟨f, by simp, h'⟩
      have : ¬ (t < 0 ∨ 64 ≤ t) := fun h' => h1 ⟨t, by simp, h'⟩
      omega
theorem put_bad {L : List Int} {who amt : Int} (h : wrong false amt [who] ≠ 0) : put L who amt = (wrong false amt [who], L) := by unfold put; rw [if_pos h]
theorem put_big {L : List Int} {who amt : Int} (h : wrong false amt [who] = 0) (h1 : 1099511627776 - L.getD who.toNat 0 < amt) : put L who amt = (3, L) := by unfold put; rw [if_neg (by omega), if_pos (by unfold at_; exact h1)]
theorem put_ok {L : List Int} {who amt : Int} (h : wrong false amt [who] = 0) (h1 : ¬ 1099511627776 - L.getD who.toNat 0 < amt) : put L who amt = (0, L.set who.toNat (L.getD who.toNat 0 + amt)) := by unfold put; rw [if_neg (by omega), if_neg (by unfold at_; exact h1)]; rfl
theorem take_bad {L : List Int} {who amt : Int} (h : wrong false amt [who] ≠ 0) : take L who amt = (wrong false amt [who], L) := by unfold take; rw [if_pos h]
theorem take_few {L : List Int} {who amt : Int} (h : wrong false amt [who] = 0) (h1 : L.getD who.toNat 0 < amt) : take L who amt = (28, L) := by unfold take; rw [if_neg (by omega), if_pos (by unfold at_; exact h1)]
theorem take_ok {L : List Int} {who amt : Int} (h : wrong false amt [who] = 0) (h1 : ¬ L.getD who.toNat 0 < amt) : take L who amt = (0, L.set who.toNat (L.getD who.toNat 0 - amt)) := by unfold take; rw [if_neg (by omega), if_neg (by unfold at_; exact h1)]; rfl
theorem move_bad {L : List Int} {f t amt : Int} (h : wrong false amt [f, t] ≠ 0) : move L f t amt = (wrong false amt [f, t], L) := by unfold move; rw [if_pos h]
theorem move_few {L : List Int} {f t amt : Int} (h : wrong false amt [f, t] = 0) (h1 : L.getD f.toNat 0 < amt) : move L f t amt = (28, L) := by unfold move; rw [if_neg (by omega), if_pos (by unfold at_; exact h1)]
theorem move_big {L : List Int} {f t amt : Int} (h : wrong false amt [f, t] = 0) (h1 : ¬ L.getD f.toNat 0 < amt) (h2 : f ≠ t) (h3 : 1099511627776 - L.getD t.toNat 0 < amt) : move L f t amt = (3, L) := by
  unfold move; rw [if_neg (by omega), if_neg (by unfold at_; exact h1), if_pos (by unfold at_; exact ⟨h2, h3⟩)]
theorem move_ok {L : List Int} {f t amt : Int} (h : wrong false amt [f, t] = 0) (h1 : ¬ L.getD f.toNat 0 < amt) (h2 : ¬ (f ≠ t ∧ 1099511627776 - L.getD t.toNat 0 < amt)) :
    move L f t amt = (0, (L.set f.toNat (L.getD f.toNat 0 - amt)).set t.toNat ((L.set f.toNat (L.getD f.toNat 0 - amt)).getD t.toNat 0 + amt)) := by
  unfold move; rw [if_neg (by omega), if_neg (by unfold at_; exact h1), if_neg (by unfold at_; exact h2)]; rfl
theorem at_set {L : List Int} (hL : L.length = 64) {f t x : Int} (hf : 0 ≤ f ∧ f < 64) (ht : 0 ≤ t ∧ t < 64) : (L.set f.toNat x).getD t.toNat 0 = if f = t then x else L.getD t.toNat 0 := by
  rw [List.getD_eq_getElem?_getD, List.getElem?_set, List.getD_eq_getElem?_getD]
  by_cases h : f = t
  · subst h; rw [if_pos rfl, if_pos rfl, if_pos (by omega)]; rfl
  · rw [if_neg (by omega), if_neg h]
theorem move_mid {L : List Int} (hL : Ok L) {f t amt : Int} (h : wrong false amt [f, t] = 0) (h1 : ¬ L.getD f.toNat 0 < amt) (h2 : ¬ (f ≠ t ∧ 1099511627776 - L.getD t.toNat 0 < amt)) :
    0 ≤ (L.set f.toNat (L.getD f.toNat 0 - amt)).getD t.toNat 0 ∧ (L.set f.toNat (L.getD f.toNat 0 - amt)).getD t.toNat 0 + amt ≤ 1099511627776 := by
  obtain ⟨a1, a2, a3, a4, a5, a6⟩ := wrong2 h
  have hf := hL.all f.toNat
  have ht := hL.all t.toNat
  rw [at_set hL.len ⟨a1, a2⟩ ⟨a3, a4⟩]
  split
  · omega
  · rename_i hne
    have : ¬ 1099511627776 - L.getD t.toNat 0 < amt := fun h' => h2 ⟨hne, h'⟩
    omega
theorem put_keep {L : List Int} (h : Ok L) (who amt : Int) : Ok (put L who amt).2 := by
  unfold put
  split
  · exact h
  · rename_i h0
    have := wrong1 (Decidable.not_not.1 h0)
    have h3 := h.all who.toNat
    unfold at_
    split
    · exact h
    · exact h.set (by omega) (by omega)
theorem take_keep {L : List Int} (h : Ok L) (who amt : Int) : Ok (take L who amt).2 := by
  unfold take
  split
  · exact h
  · rename_i h0
    have := wrong1 (Decidable.not_not.1 h0)
    have h3 := h.all who.toNat
    unfold at_
    split
    · exact h
    · exact h.set (by omega) (by omega)
theorem move_keep {L : List Int} (h : Ok L) (f t amt : Int) : Ok (move L f t amt).2 := by
  by_cases h0 : wrong false amt [f, t] = 0
  · have := wrong2 h0
    have h3 := h.all f.toNat
    by_cases h1 : L.getD f.toNat 0 < amt
    · rw [move_few h0 h1]; exact h
    · by_cases h2 : f ≠ t ∧ 1099511627776 - L.getD t.toNat 0 < amt
      · rw [move_big h0 h1 h2.1 h2.2]; exact h
      · have hm := move_mid h h0 h1 h2
        rw [move_ok h0 h1 h2]
        exact (h.set (by omega) (by omega)).set (by omega) (by omega)
  · rw [move_bad h0]; exact h
structure Act where
  k : Int
  a : Int
  b : Int
  n : Int
def doo (L : List Int) (c : Act) : Int × List Int := if c.k = 0 ∨ c.k = 1 then put L c.a c.n else if c.k = 2 then take L c.a c.n else move L c.a c.b c.n
theorem doo_put {L : List Int} {c : Act} (h : c.k = 0 ∨ c.k = 1) : doo L c = put L c.a c.n := by unfold doo; rw [if_pos h]
theorem doo_take {L : List Int} {c : Act} (h0 : c.k = 2) : doo L c = take L c.a c.n := by unfold doo; rw [if_neg (by omega), if_pos h0]
theorem doo_move {L : List Int} {c : Act} (h : ¬ (c.k = 0 ∨ c.k = 1)) (h0 : ¬ c.k = 2) : doo L c = move L c.a c.b c.n := by unfold doo; rw [if_neg h, if_neg h0]
theorem doo_keep {L : List Int} (h : Ok L) (c : Act) : Ok (doo L c).2 := by
  unfold doo
  split
  · exact put_keep h _ _
  · split
    · exact take_keep h _ _
    · exact move_keep h _ _ _
theorem of_out {L : List Int} {w : Int} (h : w < 0 ∨ 64 ≤ w) : of L w = 0 := by unfold of; rw [if_pos h]
theorem of_in {L : List Int} {w : Int} (h : ¬ (w < 0 ∨ 64 ≤ w)) : of L w = L.getD w.toNat 0 := by unfold of; rw [if_neg h]; rfl
theorem of_le {L : List Int} (h : Ok L) (w : Int) : 0 ≤ of L w ∧ of L w ≤ 1099511627776 := by
  by_cases h' : w < 0 ∨ 64 ≤ w
  · rw [of_out h']; omega
  · rw [of_in h']; exact h.all _
def sumTo (L : List Int) (k : Nat) : Int := (L.take k).sum
theorem sumTo_zero (L : List Int) : sumTo L 0 = 0 := by simp [sumTo]
theorem sumTo_succ {L : List Int} {k : Nat} (hk : k < L.length) : sumTo L (k + 1) = sumTo L k + L.getD k 0 := by
  unfold sumTo; rw [Oct.take_succ 0 hk, List.sum_append]; simp
theorem sumTo_all {L : List Int} {k : Nat} (hk : L.length ≤ k) : sumTo L k = L.sum := by unfold sumTo; rw [List.take_of_length_le hk]
theorem sumTo_le {L : List Int} (h : Ok L) : ∀ k : Nat, k ≤ 64 → 0 ≤ sumTo L k ∧ sumTo L k ≤ k * 1099511627776
  | 0, _ => by simp [sumTo]
  | k + 1, hk => by
    have := sumTo_le h k (by omega)
    have h2 := h.all k
    rw [sumTo_succ (by rw [h.len]; omega)]
    omega
end Go.Bank
