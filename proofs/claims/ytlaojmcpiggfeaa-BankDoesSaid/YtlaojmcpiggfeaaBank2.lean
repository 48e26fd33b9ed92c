/- What a bank answers: the laws, in plain Lean. -/
import Derived.Test.YtlaojmcpiggfeaaBank
namespace Go.Bank
def A0 : Act := ⟨0, 0, 0, 0⟩
def L0 : List Int := List.replicate 64 0
def run (l : List Act) (k : Nat) : List Int := (l.take k).foldl (fun L c => (doo L c).2) L0
theorem run_zero (l : List Act) : run l 0 = L0 := by simp [run]
theorem run_succ {l : List Act} {k : Nat} (h : k < l.length) : run l (k + 1) = (doo (run l k) (l.getD k A0)).2 := by
  unfold run; rw [Oct.take_succ A0 h, List.foldl_append]; rfl
theorem run_ok (l : List Act) : ∀ k, Ok (run l k)
  | 0 => by rw [run_zero]; exact Ok.zero
  | k + 1 => by
    by_cases h : k < l.length
    · rw [run_succ h]; exact doo_keep (run_ok l k) _
    · have : run l (k + 1) = run l k := by unfold run; rw [List.take_of_length_le (by omega), List.take_of_length_le (by omega)]
      rw [this]; exact run_ok l k
theorem getD_set (L : List Int) (i j : Nat) (x : Int) : (L.set i x).getD j 0 = if i = j ∧ j < L.length then x else L.getD j 0 := by
  rw [List.getD_eq_getElem?_getD, List.getElem?_set, List.getD_eq_getElem?_getD]
  by_cases h : i = j
  · subst h
    by_cases h2 : i < L.length
    · simp [h2]
    · simp [h2]
  · simp [h]
theorem put_apart (L : List Int) (a n : Int) (i : Nat) (hi : i < 64) : L.getD i 0 = (put L a n).2.getD i 0 ∨ ((put L a n).1 = 0 ∧ (i : Int) = a) := by
  by_cases h0 : wrong false n [a] = 0
  · have hw := wrong1 h0
    by_cases h1 : 1099511627776 - L.getD a.toNat 0 < n
    · rw [put_big h0 h1]; exact .inl rfl
    · rw [put_ok h0 h1]
      simp only [getD_set]
      split
      · exact .inr ⟨trivial, by omega⟩
      · exact .inl rfl
  · rw [put_bad h0]; exact .inl rfl
theorem take_apart (L : List Int) (a n : Int) (i : Nat) (hi : i < 64) : L.getD i 0 = (take L a n).2.getD i 0 ∨ ((take L a n).1 = 0 ∧ (i : Int) = a) := by
  by_cases h0 : wrong false n [a] = 0
  · have hw := wrong1 h0
    by_cases h1 : L.getD a.toNat 0 < n
    · rw [take_few h0 h1]; exact .inl rfl
    · rw [take_ok h0 h1]
      simp only [getD_set]
      split
      · exact .inr ⟨trivial, by omega⟩
      · exact .inl rfl
  · rw [take_bad h0]; exact .inl rfl
theorem move_apart (L : List Int) (a b n : Int) (i : Nat) (hi : i < 64) : L.getD i 0 = (move L a b n).2.getD i 0 ∨ ((move L a b n).1 = 0 ∧ ((i : Int) = a ∨ (i : Int) = b)) := by
  by_cases h0 : wrong false n [a, b] = 0
  · have hw := wrong2 h0
    by_cases h1 : L.getD a.toNat 0 < n
    · rw [move_few h0 h1]; exact .inl rfl
    · by_cases h2 : a ≠ b ∧ 1099511627776 - L.getD b.toNat 0 < n
      · rw [move_big h0 h1 h2.1 h2.2]; exact .inl rfl
      · rw [move_ok h0 h1 h2]
        simp only [getD_set]
        split
        · exact .inr ⟨trivial, by omega⟩
        · split
          · exact .inr ⟨trivial, by omega⟩
          · exact .inl rfl
  · rw [move_bad h0]; exact .inl rfl
theorem doo_apart (L : List Int) (c : Act) (i : Nat) (hi : i < 64) : L.getD i 0 = (doo L c).2.getD i 0 ∨ ((doo L c).1 = 0 ∧ ((i : Int) = c.a ∨ ((i : Int) = c.b ∧ (2 < c.k ∨ c.k < 0)))) := by
  by_cases h : c.k = 0 ∨ c.k = 1
  · rw [doo_put h]
    rcases put_apart L c.a c.n i hi with h | ⟨h1, h2⟩
    · exact .inl h
    · exact .inr ⟨h1, .inl h2⟩
  · by_cases h2 : c.k = 2
    · rw [doo_take h2]
      rcases take_apart L c.a c.n i hi with h | ⟨h1, h2⟩
      · exact .inl h
      · exact .inr ⟨h1, .inl h2⟩
    · rw [doo_move h h2]
      rcases move_apart L c.a c.b c.n i hi with h | ⟨h1, h3 | h3⟩
      · exact .inl h
      · exact .inr ⟨h1, .inl h3⟩
      · exact .inr ⟨h1, .inr ⟨h3, by omega⟩⟩

theorem put_err {L : List Int} {a n : Int} (h : (put L a n).1 ≠ 0) : (put L a n).2 = L := by
  unfold put at h ⊢
  split
  · rfl
  · split
    · rfl
    · rename_i h1 h2
      rw [if_neg h1, if_neg h2] at h
      exact absurd rfl h
theorem move_err {L : List Int} {a b n : Int} (h : (move L a b n).1 ≠ 0) : (move L a b n).2 = L := by
  unfold move at h ⊢
  split
  · rfl
  · split
    · rfl
    · split
      · rfl
      · rename_i h1 h2 h3
        rw [if_neg h1, if_neg h2, if_neg h3] at h
        exact absurd rfl h
theorem take_err {L : List Int} {a n : Int} (h : (take L a n).1 ≠ 0) : (take L a n).2 = L := by
  unfold take at h ⊢
  split
  · rfl
  · split
    · rfl
    · rename_i h1 h2
      rw [if_neg h1, if_neg h2] at h
      exact absurd rfl h
theorem wrong_ne {n : Int} {l : List Int} (h : wrong false n l ≠ 0) : wrong false n l = 20 ∨ wrong false n l = 2 := by
  unfold wrong at h ⊢
  simp only [Bool.false_eq_true, if_false] at h ⊢
  split
  · exact .inl rfl
  · split
    · exact .inr rfl
    · rename_i h1 h2
      rw [if_neg h1, if_neg h2] at h
      exact absurd rfl h
theorem put_is {L : List Int} {a n : Int} (h : (put L a n).1 = 0) : wrong false n [a] = 0 ∧ ¬ 1099511627776 - L.getD a.toNat 0 < n := by
  by_cases h0 : wrong false n [a] = 0
  · refine ⟨h0, fun h1 => ?_⟩
    rw [put_big h0 h1] at h
    cases h
  · rw [put_bad h0] at h
    exact absurd h h0
theorem take_is {L : List Int} {a n : Int} (h : (take L a n).1 = 0) : wrong false n [a] = 0 ∧ ¬ L.getD a.toNat 0 < n := by
  by_cases h0 : wrong false n [a] = 0
  · refine ⟨h0, fun h1 => ?_⟩
    rw [take_few h0 h1] at h
    cases h
  · rw [take_bad h0] at h
    exact absurd h h0
theorem move_is {L : List Int} {a b n : Int} (h : (move L a b n).1 = 0) : wrong false n [a, b] = 0 ∧ ¬ L.getD a.toNat 0 < n ∧ ¬ (a ≠ b ∧ 1099511627776 - L.getD b.toNat 0 < n) := by
  by_cases h0 : wrong false n [a, b] = 0
  · refine ⟨h0, fun h1 => ?_, fun h2 => ?_⟩
    · rw [move_few h0 h1] at h
      cases h
    · by_cases h1 : L.getD a.toNat 0 < n
      · rw [move_few h0 h1] at h
        cases h
      · rw [move_big h0 h1 h2.1 h2.2] at h
        cases h
  · rw [move_bad h0] at h
    exact absurd h h0
theorem ext64 {A B : List Int} (ha : A.length = B.length) (h : ∀ j, A.getD j 0 = B.getD j 0) : A = B := by
  apply List.ext_getElem ha
  intro j h1 h2
  have := h j
  simpa [List.getD_eq_getElem?_getD, h1, h2] using this
theorem put_back {L : List Int} (hL : Ok L) {a n : Int} (h : (put L a n).1 = 0) : take (put L a n).2 a n = (0, L) := by
  obtain ⟨h0, h1⟩ := put_is h
  have hw := wrong1 h0
  have ha := hL.all a.toNat
  have hlen := hL.len
  rw [put_ok h0 h1]
  have e : (L.set a.toNat (L.getD a.toNat 0 + n)).getD a.toNat 0 = L.getD a.toNat 0 + n := by rw [getD_set, if_pos (by omega)]
  rw [take_ok h0 (by rw [e]; omega), e]
  congr 1
  refine ext64 (by simp) fun j => ?_
  simp only [getD_set, List.length_set]
  split
  · rename_i hj; rw [← hj.1]; omega
  · rfl
theorem move_back {L : List Int} (hL : Ok L) {a b n : Int} (h : (move L a b n).1 = 0) : move (move L a b n).2 b a n = (0, L) := by
  obtain ⟨h0, h1, h2⟩ := move_is h
  have hw := wrong2 h0
  have ha := hL.all a.toNat
  have hb := hL.all b.toNat
  have hlen := hL.len
  have h0' : wrong false n [b, a] = 0 := wrong_ok (fun ⟨x, hx, hx'⟩ => by
    rcases List.mem_cons.1 hx with rfl | hx
    · omega
    · rw [List.mem_singleton.1 hx] at hx'; omega) (by omega)
  rw [move_ok h0 h1 h2]
  have key : ∀ j : Nat, ((L.set a.toNat (L.getD a.toNat 0 - n)).set b.toNat ((L.set a.toNat (L.getD a.toNat 0 - n)).getD b.toNat 0 + n)).getD j 0 = if b.toNat = j then (if a = b then L.getD b.toNat 0 else L.getD b.toNat 0 + n) else if a.toNat = j then L.getD a.toNat 0 - n else L.getD j 0 := by
    intro j
    simp only [getD_set, List.length_set]
    by_cases e1 : b.toNat = j
    · subst e1
      rw [if_pos ⟨rfl, by omega⟩, if_pos rfl]
      by_cases e2 : a = b
      · subst e2; rw [if_pos (by omega), if_pos rfl]; omega
      · rw [if_neg (by omega), if_neg e2]
    · rw [if_neg (by omega), if_neg e1]
      by_cases e2 : a.toNat = j
      · rw [if_pos (by omega), if_pos e2]
      · rw [if_neg (by omega), if_neg e2]
  have kb := key b.toNat
  rw [if_pos rfl] at kb
  have hkb : ¬ (if a = b then L.getD b.toNat 0 else L.getD b.toNat 0 + n) < n := by
    split
    · rename_i hh; subst hh; omega
    · omega
  rw [move_ok h0' (by rw [kb]; exact hkb) (by
    have ka := key a.toNat
    rintro ⟨g1, g2⟩
    rw [ka, if_neg (by omega), if_pos rfl] at g2
    omega)]
  congr 1
  refine ext64 (by simp) fun j => ?_
  rw [kb]
  simp only [getD_set, List.length_set, key]
  by_cases e1 : a = b
  · subst e1
    simp only [if_true]
    by_cases e2 : a.toNat = j
    · subst e2; simp [hlen]; omega
    · simp [e2]
  · have e1' : b.toNat ≠ a.toNat := by omega
    rw [if_neg e1]
    by_cases e2 : a.toNat = j
    · subst e2
      simp [e1', hlen]; omega
    · by_cases e3 : b.toNat = j
      · subst e3
        simp [hlen, e2]; omega
      · simp [e2, e3]
/-! ### Sums -/
theorem sum_set : ∀ {L : List Int} {i : Nat} {x : Int}, i < L.length → (L.set i x).sum = L.sum - L.getD i 0 + x
  | [], i, x, h => by simp at h
  | y :: L, 0, x, _ => by simp; omega
  | y :: L, i + 1, x, h => by
    have := sum_set (L := L) (i := i) (x := x) (by simpa using h)
    simp only [List.set_cons_succ, List.sum_cons, List.getD_cons_succ, this]
    omega
theorem put_sum {L : List Int} (hL : Ok L) {a n : Int} (h : (put L a n).1 = 0) : (put L a n).2.sum = L.sum + n := by
  obtain ⟨h0, h1⟩ := put_is h
  have hw := wrong1 h0
  have hlen := hL.len
  rw [put_ok h0 h1, sum_set (by omega)]
  omega
theorem take_sum {L : List Int} (hL : Ok L) {a n : Int} (h : (take L a n).1 = 0) : (take L a n).2.sum = L.sum - n := by
  obtain ⟨h0, h1⟩ := take_is h
  have hw := wrong1 h0
  have hlen := hL.len
  rw [take_ok h0 h1, sum_set (by omega)]
  omega
theorem move_sum {L : List Int} (hL : Ok L) (a b n : Int) : (move L a b n).2.sum = L.sum := by
  by_cases h : (move L a b n).1 = 0
  · obtain ⟨h0, h1, h2⟩ := move_is h
    have hw := wrong2 h0
    have hlen := hL.len
    rw [move_ok h0 h1 h2, sum_set (by simp; omega), sum_set (by omega)]
    omega
  · rw [move_err h]
def gain (c : Act) (e : Int) : Int := if e = 0 then (if c.k = 0 ∨ c.k = 1 then c.n else if c.k = 2 then -c.n else 0) else 0
theorem doo_sum {L : List Int} (hL : Ok L) (c : Act) : (doo L c).2.sum = L.sum + gain c (doo L c).1 := by
  unfold gain
  by_cases h : c.k = 0 ∨ c.k = 1
  · rw [doo_put h]
    by_cases h1 : (put L c.a c.n).1 = 0
    · rw [if_pos h1, if_pos h, put_sum hL h1]
    · rw [if_neg h1, put_err h1]; omega
  · by_cases h2 : c.k = 2
    · rw [doo_take h2]
      by_cases h1 : (take L c.a c.n).1 = 0
      · rw [if_pos h1, if_neg h, if_pos h2, take_sum hL h1]; omega
      · rw [if_neg h1, take_err h1]; omega
    · rw [doo_move h h2, if_neg h, if_neg h2, move_sum hL]; simp
theorem sum_le {L : List Int} (h : Ok L) : 0 ≤ L.sum ∧ L.sum ≤ 64 * 1099511627776 := by
  have := sumTo_le h 64 (by omega)
  rw [sumTo_all (by rw [h.len]; omega)] at this
  omega
theorem wrong1_who {amt a : Int} (h : ¬ (0 ≤ a ∧ a < 64)) : wrong false amt [a] = 20 := wrong_who (k := 0) (by simp) (by simp; omega)
theorem wrong1_none {a : Int} (h : 0 ≤ a ∧ a < 64) : ¬ ∃ x ∈ [a], x < 0 ∨ 64 ≤ x := by rintro ⟨x, hx, h'⟩; rw [List.mem_singleton.1 hx] at h'; omega
theorem wrong1_amt {amt a : Int} (h : 0 ≤ a ∧ a < 64) (h1 : ¬ (0 ≤ amt ∧ amt ≤ 1099511627776)) : wrong false amt [a] = 2 := wrong_amt (wrong1_none h) (by omega)
theorem wrong1_ok {amt a : Int} (h : 0 ≤ a ∧ a < 64) (h1 : 0 ≤ amt ∧ amt ≤ 1099511627776) : wrong false amt [a] = 0 := wrong_ok (wrong1_none h) (by omega)
theorem wrong2_who {amt a b : Int} (h : ¬ (0 ≤ a ∧ a < 64) ∨ ¬ (0 ≤ b ∧ b < 64)) : wrong false amt [a, b] = 20 := by
  rcases h with h | h
  · exact wrong_who (k := 0) (by simp) (by simp; omega)
  · exact wrong_who (k := 1) (by simp) (by simp; omega)
theorem wrong2_none {a b : Int} (h : 0 ≤ a ∧ a < 64) (hb : 0 ≤ b ∧ b < 64) : ¬ ∃ x ∈ [a, b], x < 0 ∨ 64 ≤ x := by
  rintro ⟨x, hx, h'⟩
  rcases List.mem_cons.1 hx with rfl | hx
  · omega
  · rw [List.mem_singleton.1 hx] at h'; omega
theorem wrong2_amt {amt a b : Int} (h : 0 ≤ a ∧ a < 64) (hb : 0 ≤ b ∧ b < 64) (h1 : ¬ (0 ≤ amt ∧ amt ≤ 1099511627776)) : wrong false amt [a, b] = 2 := wrong_amt (wrong2_none h hb) (by omega)
theorem wrong2_ok {amt a b : Int} (h : 0 ≤ a ∧ a < 64) (hb : 0 ≤ b ∧ b < 64) (h1 : 0 ≤ amt ∧ amt ≤ 1099511627776) : wrong false amt [a, b] = 0 := wrong_ok (wrong2_none h hb) (by omega)
theorem put_20 {L : List Int} {a n : Int} (h : ¬ (0 ≤ a ∧ a < 64)) : put L a n = (20, L) := by rw [put_bad (by rw [wrong1_who h]; decide), wrong1_who h]
theorem put_2 {L : List Int} {a n : Int} (h : 0 ≤ a ∧ a < 64) (h1 : ¬ (0 ≤ n ∧ n ≤ 1099511627776)) : put L a n = (2, L) := by rw [put_bad (by rw [wrong1_amt h h1]; decide), wrong1_amt h h1]
theorem take_20 {L : List Int} {a n : Int} (h : ¬ (0 ≤ a ∧ a < 64)) : take L a n = (20, L) := by rw [take_bad (by rw [wrong1_who h]; decide), wrong1_who h]
theorem take_2 {L : List Int} {a n : Int} (h : 0 ≤ a ∧ a < 64) (h1 : ¬ (0 ≤ n ∧ n ≤ 1099511627776)) : take L a n = (2, L) := by rw [take_bad (by rw [wrong1_amt h h1]; decide), wrong1_amt h h1]
theorem move_20 {L : List Int} {a b n : Int} (h : ¬ (0 ≤ a ∧ a < 64) ∨ ¬ (0 ≤ b ∧ b < 64)) : move L a b n = (20, L) := by rw [move_bad (by rw [wrong2_who h]; decide), wrong2_who h]
theorem move_2 {L : List Int} {a b n : Int} (h : 0 ≤ a ∧ a < 64) (hb : 0 ≤ b ∧ b < 64) (h1 : ¬ (0 ≤ n ∧ n ≤ 1099511627776)) : move L a b n = (2, L) := by rw [move_bad (by rw [wrong2_amt h hb h1]; decide), wrong2_amt h hb h1]
theorem move_self {L : List Int} (hL : Ok L) {a b n : Int} (e : a = b) (h : 0 ≤ a ∧ a < 64) (h1 : 0 ≤ n ∧ n ≤ 1099511627776) (h2 : ¬ L.getD a.toNat 0 < n) : move L a b n = (0, L) := by
  subst e
  have hlen := hL.len
  rw [move_ok (wrong2_ok h h h1) h2 (by simp)]
  congr 1
  refine ext64 (by simp) fun j => ?_
  simp only [getD_set, List.length_set]
  by_cases e2 : a.toNat = j
  · subst e2
    have hlt : a.toNat < L.length := by omega
    simp [hlt]
  · simp [e2]
end Go.Bank
