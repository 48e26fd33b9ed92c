/- The lane, in plain Lean. -/
import Derived.Test.YtaeahloenahelaaDoorTx
namespace Go.Lane
open Go.Txs (Tx within)
structure Held where
  round : Int
  who : Int
  turn : Int
structure Lane where
  length : Int
  L : List Held
def roundOf (length now : Int) : Int := if now < 0 then 0 else now / length
def isAt (round : Int) (x : Held) : Bool := decide (x.round = round)
def look (L : List Held) (round : Int) : Option Held := L.find? (isAt round)
/-- A round's place. -/
def place (L : List Held) (round : Int) : Option Nat := L.findIdx? (isAt round)
def put (L : List Held) (round : Int) (x : Held) : List Held :=
  match place L round with
  | some i => L.set i x
  | none => L
def set (l : Lane) (round who : Int) : Lane × Int :=
  if round < 0 then (l, 2) else if ¬ within who 63 then (l, 20) else if (look l.L round).isSome = true then (l, 23) else ({ l with L := l.L ++ [⟨round, who, 0⟩] }, 0)
def give (l : Lane) (round src dst now : Int) : Lane × Int :=
  if ¬ within src 63 ∨ ¬ within dst 63 then (l, 20) else
  match look l.L round with
  | none => (l, 34)
  | some x => if x.who ≠ src then (l, 21) else if round < roundOf l.length now then (l, 26) else ({ l with L := put l.L round ⟨round, dst, x.turn⟩ }, 0)
def check (l : Lane) (t : Tx) (now : Int) : Int :=
  if Txs.check t ≠ 0 then Txs.check t else if t.lane = false then 2 else if t.round ≠ roundOf l.length now then 29 else
  match look l.L t.round with
  | none => 34
  | some x => if (Seal.tag x.who 2 (Txs.body t).1).1 ≠ t.hand then 21 else if t.turn ≠ x.turn then 30 else 0
def take (l : Lane) (t : Tx) (now : Int) : Lane × Int :=
  if check l t now ≠ 0 then (l, check l t now) else
  match look l.L t.round with
  | none => (l, 0)
  | some x => ({ l with L := put l.L t.round ⟨t.round, x.who, x.turn + 1⟩ }, 0)
def whoOf (L : List Held) (round : Int) : Int × Bool := match look L round with
  | some x => (x.who, true)
  | none => (0, false)
def turnOf (L : List Held) (round : Int) : Int := match look L round with
  | some x => x.turn
  | none => 0
/-! ### Looking -/
theorem look_place : ∀ (L : List Held) (round : Int), look L round = (place L round).map fun i => L.getD i ⟨0, 0, 0⟩
  | [], _ => rfl
  | x :: L, round => by
    have ih := look_place L round
    unfold look place at *
    rw [List.find?_cons, List.findIdx?_cons]
    cases h : isAt round x with
    | true => rfl
    | false =>
      simp only [ih, Bool.false_eq_true, if_false, Option.map_map]
      cases List.findIdx? (isAt round) L <;> rfl
theorem look_snoc (L : List Held) (x : Held) (r : Int) : look (L ++ [x]) r = if (look L r).isSome = true then look L r else if x.round = r then some x else none := by
  unfold look
  rw [List.find?_append]
  cases h : List.find? (isAt r) L with
  | some y => rfl
  | none =>
    show List.find? (isAt r) [x] = _
    rw [List.find?_cons]
    by_cases hx : x.round = r
    · rw [show isAt r x = true from decide_eq_true hx]; simp [hx]
    · rw [show isAt r x = false from decide_eq_false hx]; simp [hx]
theorem look_put : ∀ (L : List Held) (round : Int) (x : Held) (r : Int), x.round = round → (look L round).isSome = true → look (put L round x) r = if r = round then some x else look L r
  | [], round, x, r, _, h => by simp [look] at h
  | y :: L, round, x, r, hx, h => by
    have ih := look_put L round x r hx
    unfold put place at *
    unfold look at *
    rw [List.findIdx?_cons]
    rw [List.find?_cons] at h
    cases hy : isAt round y with
    | true =>
      show List.find? (isAt r) (x :: L) = _
      rw [List.find?_cons, List.find?_cons]
      have hyr : y.round = round := of_decide_eq_true hy
      by_cases hr : r = round
      · rw [show isAt r x = true from decide_eq_true (by rw [hx, hr]), if_pos hr]
      · rw [show isAt r x = false from decide_eq_false (by rw [hx]; exact fun e => hr e.symm), show isAt r y = false from decide_eq_false (by rw [hyr]; exact fun e => hr e.symm), if_neg hr]
    | false =>
      rw [hy] at h
      have ih := ih h
      simp only [Bool.false_eq_true, if_false]
      cases hf : List.findIdx? (isAt round) L with
      | none =>
        rw [List.findIdx?_eq_none_iff] at hf
        rw [List.find?_isSome] at h
        obtain ⟨z, hz, h1⟩ := h
        rw [hf z hz] at h1
        simp at h1
      | some i =>
        rw [hf] at ih
        show List.find? (isAt r) (y :: L.set i x) = _
        have ih' : List.find? (isAt r) (L.set i x) = if r = round then some x else List.find? (isAt r) L := ih
        rw [List.find?_cons, List.find?_cons, ih']
        have hyr : y.round ≠ round := of_decide_eq_false hy
        by_cases hr : r = round
        · rw [show isAt r y = false from decide_eq_false (by rw [hr]; exact hyr), if_pos hr]
        · simp only [if_neg hr]
theorem look_putS {L : List Held} {round : Int} {y : Held} (hy : look L round = some y) (a b r : Int) : look (put L round ⟨round, a, b⟩) r = if r = round then some ⟨round, a, b⟩ else look L r :=
  look_put L round ⟨round, a, b⟩ r rfl (by rw [hy]; rfl)
structure Good (l : Lane) : Prop where
  len : 1 ≤ l.length ∧ l.length ≤ 1099511627776
  at_ : ∀ r x, look l.L r = some x → x.round = r ∧ within x.who 63 ∧ 0 ≤ x.turn ∧ x.turn ≤ 1099511627777
theorem good_new {n : Int} (h : 1 ≤ n ∧ n ≤ 1099511627776) : Good ⟨n, []⟩ := ⟨h, fun _ _ h => by simp [look] at h⟩
theorem good_set {l : Lane} (h : Good l) (round who : Int) : Good (set l round who).1 := by
  unfold set
  split
  · exact h
  split
  · exact h
  split
  · exact h
  · rename_i h1 h2 h3
    refine ⟨h.len, fun r x hx => ?_⟩
    rw [look_snoc] at hx
    split at hx
    · exact h.at_ r x hx
    · split at hx
      · rename_i h4
        injection hx with hx
        subst hx
        exact ⟨h4, by simpa using h2, by show (0 : Int) ≤ 0; omega, by show (0 : Int) ≤ _; omega⟩
      · simp at hx
theorem good_give {l : Lane} (h : Good l) (round src dst now : Int) : Good (give l round src dst now).1 := by
  unfold give
  split
  · exact h
  rename_i h0
  split
  · exact h
  · rename_i y hy
    split
    · exact h
    split
    · exact h
    · refine ⟨h.len, fun r x hx => ?_⟩
      have hx : look (put l.L round ⟨round, dst, y.turn⟩) r = some x := hx
      rw [look_putS hy] at hx
      split at hx
      · rename_i e
        injection hx with hx
        subst hx
        have := h.at_ _ _ hy
        exact ⟨e.symm, by have := not_or.1 h0; simpa using this.2, this.2.2⟩
      · exact h.at_ r x hx
theorem check_turn {l : Lane} {t : Tx} {now : Int} (h : check l t now = 0) : ∃ x, look l.L t.round = some x ∧ t.turn = x.turn ∧ (Seal.tag x.who 2 (Txs.body t).1).1 = t.hand ∧ t.lane = true ∧ t.round = roundOf l.length now ∧ Txs.check t = 0 := by
  unfold check at h
  split at h
  · rename_i h1; exact absurd h h1
  rename_i h1
  split at h
  · simp at h
  rename_i h2
  split at h
  · simp at h
  rename_i h3
  split at h
  · simp at h
  · rename_i x hx
    split at h
    · simp at h
    rename_i h4
    split at h
    · simp at h
    rename_i h5
    exact ⟨x, hx, Decidable.of_not_not h5, Decidable.of_not_not h4, by simpa using h2, Decidable.of_not_not h3, Decidable.of_not_not h1⟩
theorem take_no {l : Lane} {t : Tx} {now : Int} (h : check l t now ≠ 0) : take l t now = (l, check l t now) := by unfold take; rw [if_pos h]
theorem take_yes {l : Lane} {t : Tx} {now : Int} (h : check l t now = 0) {x : Held} (hx : look l.L t.round = some x) : take l t now = ({ l with L := put l.L t.round ⟨t.round, x.who, x.turn + 1⟩ }, 0) := by
  unfold take
  rw [if_neg (fun y => y h), hx]
theorem take_err (l : Lane) (t : Tx) (now : Int) : (take l t now).2 = check l t now := by
  by_cases h : check l t now = 0
  · obtain ⟨x, hx, -⟩ := check_turn h
    rw [take_yes h hx, h]
  · rw [take_no h]
theorem take_len (l : Lane) (t : Tx) (now : Int) : (take l t now).1.length = l.length := by
  by_cases h : check l t now = 0
  · obtain ⟨x, hx, -⟩ := check_turn h
    rw [take_yes h hx]
  · rw [take_no h]
theorem tx_turn {t : Tx} (h : Txs.check t = 0) (hl : t.lane = true) : 0 ≤ t.turn ∧ t.turn ≤ 1099511627776 := by
  obtain ⟨-, h1, -⟩ := Txs.check_is.1 h
  exact (h1.2.1 hl).2
theorem good_take {l : Lane} (h : Good l) (t : Tx) (now : Int) : Good (take l t now).1 := by
  by_cases hc : check l t now = 0
  · obtain ⟨x, hx, ht, -, hl, -, hk⟩ := check_turn hc
    rw [take_yes hc hx]
    have hb := tx_turn hk hl
    refine ⟨h.len, fun r y hy => ?_⟩
    have hy : look (put l.L t.round ⟨t.round, x.who, x.turn + 1⟩) r = some y := hy
    rw [look_putS hx] at hy
    split at hy
    · rename_i e
      injection hy with hy
      subst hy
      have := h.at_ _ _ hx
      exact ⟨e.symm, this.2.1, by show 0 ≤ x.turn + 1; omega, by show x.turn + 1 ≤ _; omega⟩
    · exact h.at_ r y hy
  · rw [take_no hc]; exact h
/-- What was taken is not taken twice. -/
theorem take_again {l : Lane} {t : Tx} {now : Int} (h : check l t now = 0) : check (take l t now).1 t now = 30 ∧ turnOf (take l t now).1.L t.round = turnOf l.L t.round + 1 := by
  obtain ⟨x, hx, ht, hg, hl, hr, hk⟩ := check_turn h
  rw [take_yes h hx]
  have hp : look (put l.L t.round ⟨t.round, x.who, x.turn + 1⟩) t.round = some ⟨t.round, x.who, x.turn + 1⟩ := by rw [look_putS hx, if_pos rfl]
  constructor
  · unfold check
    rw [if_neg (fun y => y hk), if_neg (by rw [hl]; decide), if_neg (fun y => y hr)]
    simp only [hp]
    rw [if_neg (fun y => y hg), if_pos (by omega)]
  · unfold turnOf
    simp only [hp, hx]
/-! ### Rounds -/
theorem round_neg {length now : Int} (h : now < 0) : roundOf length now = 0 := by unfold roundOf; rw [if_pos h]
theorem round_pos {length now : Int} (h : ¬ now < 0) : roundOf length now = now / length := by unfold roundOf; rw [if_neg h]
theorem round_fits {length now : Int} (h : 1 ≤ length) (h0 : 0 ≤ now) : 0 ≤ roundOf length now ∧ roundOf length now ≤ now ∧ 0 ≤ now - roundOf length now * length ∧ now - roundOf length now * length < length := by
  rw [round_pos (by omega)]
  have h1 := Int.emod_add_mul_ediv now length
  have h2 := Int.emod_nonneg now (show length ≠ 0 by omega)
  have h3 := Int.emod_lt_of_pos now (show 0 < length by omega)
  have h4 : 0 ≤ now / length := Int.ediv_nonneg h0 (by omega)
  have h5 : now / length ≤ now := Int.ediv_le_self _ h0
  rw [Int.mul_comm] at h1
  omega
end Go.Lane
