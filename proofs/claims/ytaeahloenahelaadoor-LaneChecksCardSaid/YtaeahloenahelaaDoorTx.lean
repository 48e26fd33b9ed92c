/- Transactions, in plain Lean. -/
import Derived.Test.YtaeahloenahelaaDoorNoteA
namespace Go.Txs
open Go.Note (num Z Z_len list_small num_len)
structure Tx where
  src : Int
  nonce : Int
  fee : Int
  dst : Int
  data : List UInt8
  lane : Bool
  round : Int
  turn : Int
  hand : List UInt8
  tag : List UInt8
instance : DecidableEq Tx := fun x y => decidable_of_iff (x.src = y.src ∧ x.nonce = y.nonce ∧ x.fee = y.fee ∧ x.dst = y.dst ∧ x.data = y.data ∧ x.lane = y.lane ∧ x.round = y.round ∧ x.turn = y.turn ∧ x.hand = y.hand ∧ x.tag = y.tag) (by cases x; cases y; simp)
def Tx.zero : Tx := ⟨0, 0, 0, 0, [], false, 0, 0, Z, Z⟩
def within (n m : Int) : Prop := 0 ≤ n ∧ n ≤ m
instance (n m : Int) : Decidable (within n m) := by unfold within; infer_instance
def okWho (t : Tx) : Prop := within t.src 63 ∧ within t.dst 63
def okArg (t : Tx) : Prop := (within t.nonce 1099511627776 ∧ within t.fee 1099511627776) ∧ (t.lane = true → within t.round 1099511627776 ∧ within t.turn 1099511627776) ∧ (t.lane = false → t.round = 0 ∧ t.turn = 0 ∧ t.hand = Z)
instance (t : Tx) : Decidable (okWho t) := by unfold okWho; infer_instance
instance (t : Tx) : Decidable (okArg t) := by unfold okArg; infer_instance
def check (t : Tx) : Int := if ¬ okWho t then 20 else if ¬ okArg t then 2 else if 256 < t.data.length then 3 else 0
def fields (t : Tx) : List (List UInt8) := [num t.src, num t.nonce, num t.fee, num t.dst, t.data] ++ (if t.lane = true then [num t.round, num t.turn] else [])
def body (t : Tx) : List UInt8 × Int := if check t ≠ 0 then ([], check t) else Oct.list (fields t)
def hand (t : Tx) (who : Int) : Tx × Int :=
  if (body t).2 ≠ 0 then (Tx.zero, (body t).2) else if ¬ within who 63 then (Tx.zero, 20) else if t.lane = false then (Tx.zero, 2) else ({ t with hand := (Seal.tag who 2 (body t).1).1 }, 0)
theorem check_who {t : Tx} (h : ¬ okWho t) : check t = 20 := by unfold check; rw [if_pos h]
theorem check_arg {t : Tx} (h : okWho t) (h1 : ¬ okArg t) : check t = 2 := by unfold check; rw [if_neg (fun x => x h), if_pos h1]
theorem check_big {t : Tx} (h : okWho t) (h1 : okArg t) (h2 : 256 < t.data.length) : check t = 3 := by unfold check; rw [if_neg (fun x => x h), if_neg (fun x => x h1), if_pos h2]
theorem check_ok {t : Tx} (h : okWho t) (h1 : okArg t) (h2 : ¬ 256 < t.data.length) : check t = 0 := by unfold check; rw [if_neg (fun x => x h), if_neg (fun x => x h1), if_neg h2]
theorem check_is {t : Tx} : check t = 0 ↔ okWho t ∧ okArg t ∧ t.data.length ≤ 256 := by
  by_cases h : okWho t
  · by_cases h1 : okArg t
    · by_cases h2 : 256 < t.data.length
      · rw [check_big h h1 h2]
        exact ⟨fun x => by simp at x, fun x => by omega⟩
      · rw [check_ok h h1 h2]
        exact ⟨fun _ => ⟨h, h1, by omega⟩, fun _ => rfl⟩
    · rw [check_arg h h1]
      exact ⟨fun x => by simp at x, fun x => absurd x.2.1 h1⟩
  · rw [check_who h]
    exact ⟨fun x => by simp at x, fun x => absurd x.1 h⟩
theorem fields_le {t : Tx} (h : check t = 0) : (fields t).length ≤ 7 ∧ (fields t).flatten.length ≤ 400 := by
  obtain ⟨h0, h1, h2⟩ := check_is.1 h
  obtain ⟨h3, h4⟩ := h0
  obtain ⟨⟨h5, h6⟩, h7, -⟩ := h1
  unfold within at *
  have a := num_len (n := t.src) (by omega)
  have b := num_len (n := t.nonce) (by omega)
  have c := num_len (n := t.fee) (by omega)
  have d := num_len (n := t.dst) (by omega)
  unfold fields
  cases hl : t.lane with
  | false =>
    simp only [Bool.false_eq_true, if_false, List.append_nil, List.length_cons, List.length_nil, List.flatten_cons, List.flatten_nil, List.length_append]
    omega
  | true =>
    obtain ⟨h8, h9⟩ := h7 hl
    have e := num_len (n := t.round) (by omega)
    have f := num_len (n := t.turn) (by omega)
    simp only [if_true, List.cons_append, List.nil_append, List.length_cons, List.length_nil, List.flatten_cons, List.flatten_nil, List.length_append]
    omega
theorem body_bad {t : Tx} (h : check t ≠ 0) : body t = ([], check t) := by unfold body; rw [if_pos h]
theorem body_ok {t : Tx} (h : check t = 0) : body t = ((Oct.list (fields t)).1, 0) := by
  unfold body
  rw [if_neg (fun x => x h)]
  have h1 := fields_le h
  have h2 : (Oct.list (fields t)).2 = 0 := list_small (by omega) (by omega)
  exact Prod.ext rfl h2
theorem body_err (t : Tx) : (body t).2 = check t := by
  by_cases h : check t = 0
  · rw [body_ok h, h]
  · rw [body_bad h]
theorem body_len (t : Tx) : (body t).1.length ≤ 80000 := by
  unfold body
  split
  · simp
  · exact Oct.list_len
theorem tag_fine {who : Int} (h : within who 63) (b : List UInt8) : (Seal.tag who 2 b).2 = 0 := by
  unfold within at h
  rw [Seal.tag_ok (by rw [Seal.key_ok (by omega)]) (by omega)]
theorem seal_is {who : Int} (h : within who 63) (b x : List UInt8) : Seal.check who 2 b x = 0 ↔ (Seal.tag who 2 b).1 = x := by
  by_cases e : (Seal.tag who 2 b).1 = x
  · rw [Seal.check_ok (tag_fine h b) e]; exact ⟨fun _ => e, fun _ => rfl⟩
  · rw [Seal.check_bad (tag_fine h b) e]; exact ⟨fun y => by simp at y, fun y => absurd y e⟩
end Go.Txs
