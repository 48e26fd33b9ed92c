/- Transactions and lanes as cells and maps. -/
import Derived.Test.YtaeahloenahelaaDoorLane
import Derived.Test.YtaeahloenahelaaDoorAuctionV
import Derived.Test.YtaeahloenahelaaDoorSxM
import Derived.Test.YtaeahloenahelaaDoorSxO
namespace Go.Txs
open Go.Sx
open Go.Note (Z I64)
def Tx.cells (t : Tx) : List Value := i64 t.src :: i64 t.nonce :: i64 t.fee :: i64 t.dst :: str t.data :: .bool t.lane :: i64 t.round :: i64 t.turn :: (t.hand.map u8 ++ t.tag.map u8)
structure Tx.Wf (t : Tx) : Prop where
  src : I64 t.src
  nonce : I64 t.nonce
  fee : I64 t.fee
  dst : I64 t.dst
  data : t.data.length ≤ 140737488351232
  round : I64 t.round
  turn : I64 t.turn
  hand : t.hand.length = 32
  tag : t.tag.length = 32
theorem Tx.cells_len {t : Tx} (h : t.hand.length = 32) (h1 : t.tag.length = 32) : t.cells.length = 72 := by simp [Tx.cells, h, h1]
theorem Tx.wf_zero : Tx.Wf Tx.zero := ⟨⟨by decide, by decide⟩, ⟨by decide, by decide⟩, ⟨by decide, by decide⟩, ⟨by decide, by decide⟩, by decide, ⟨by decide, by decide⟩, ⟨by decide, by decide⟩, by simp [Tx.zero, Z], by simp [Tx.zero, Z]⟩
theorem hand_wf {t : Tx} (h : t.Wf) (who : Int) : (hand t who).1.Wf := by
  unfold hand
  split
  · exact Tx.wf_zero
  · split
    · exact Tx.wf_zero
    · split
      · exact Tx.wf_zero
      · exact { h with hand := Seal.tag_len _ _ _ }
end Go.Txs
namespace Go.Lane
open Go.Sx
open Go.Note (Z I64)
open Go.Inbox (flat_lenM flat_takeM flat_getM memD)
def Held.cells (x : Held) : List Value := [i64 x.round, i64 x.who, i64 x.turn]
def Held.zero : Held := ⟨0, 0, 0⟩
def hc (L : List Held) : List Value := (L.map Held.cells).flatten
theorem hc_len (L : List Held) : (hc L).length = L.length * 3 := flat_lenM L fun _ _ => rfl
theorem hc_at {L : List Held} {k c : Nat} (hk : k < L.length) (h : c < 3) : (hc L)[k * 3 + c]? = (Held.cells (L.getD k Held.zero))[c]? := flat_getM (f := Held.cells) Held.zero (fun _ _ => rfl) hk h
theorem hc_append (L M : List Held) : hc (L ++ M) = hc L ++ hc M := by simp [hc]
theorem hc_one (x : Held) : hc [x] = Held.cells x := by simp [hc]
/-- Who holds the rounds, as a map. -/
def hm (L : List Held) : Int → Option Value := fun r => (look L r).map fun x => i64 x.who
/-- A map that tells the turns. -/
def Turns (L : List Held) (f : Int → Option Value) : Prop := ∀ r, (f r).getD (i64 0) = i64 (turnOf L r)
theorem hm_nil : hm [] = fun _ => none := by funext r; rfl
theorem turns_nil : Turns [] (fun _ => none) := fun r => rfl
theorem hm_get (L : List Held) (r : Int) : ((hm L r).getD (i64 0)) = i64 (whoOf L r).1 := by
  unfold hm whoOf
  cases look L r <;> rfl
theorem hm_some (L : List Held) (r : Int) : (hm L r).isSome = (whoOf L r).2 := by
  unfold hm whoOf
  cases look L r <;> rfl
theorem look_sset {L : List Held} {round who : Int} (h : look L round = none) (r : Int) : look (L ++ [⟨round, who, 0⟩]) r = if r = round then some ⟨round, who, 0⟩ else look L r := by
  rw [look_snoc]
  by_cases e : r = round
  · subst e
    simp [h]
  · rw [if_neg e]
    cases hl : look L r with
    | none => simp; exact fun h => e h.symm
    | some x => simp
theorem hm_set {L : List Held} {round who : Int} (h : look L round = none) : hm (L ++ [⟨round, who, 0⟩]) = mset (hm L) round (i64 who) := by
  funext r
  unfold hm mset
  rw [look_sset h]
  split <;> rfl
theorem turns_set {L : List Held} {f : Int → Option Value} {round who : Int} (h : look L round = none) (ht : Turns L f) : Turns (L ++ [⟨round, who, 0⟩]) f := fun r => by
  rw [ht r]
  unfold turnOf
  rw [look_sset h]
  by_cases e : r = round
  · subst e
    rw [if_pos rfl, h]
  · rw [if_neg e]
theorem hm_put {L : List Held} {round : Int} {y : Held} (hy : look L round = some y) (a b : Int) : hm (put L round ⟨round, a, b⟩) = mset (hm L) round (i64 a) := by
  funext r
  unfold hm mset
  rw [look_putS hy]
  split <;> rfl
theorem hm_same {L : List Held} {round : Int} {y : Held} (hy : look L round = some y) (b : Int) : hm (put L round ⟨round, y.who, b⟩) = hm L := by
  rw [hm_put hy]
  funext r
  unfold hm mset
  split
  · rename_i e; rw [e, hy]; rfl
  · rfl
theorem turns_give {L : List Held} {f : Int → Option Value} {round : Int} {y : Held} (hy : look L round = some y) (a : Int) (ht : Turns L f) : Turns (put L round ⟨round, a, y.turn⟩) f := fun r => by
  rw [ht r]
  unfold turnOf
  rw [look_putS hy]
  by_cases e : r = round
  · subst e; rw [if_pos rfl, hy]
  · rw [if_neg e]
theorem turns_take {L : List Held} {f : Int → Option Value} {round : Int} {y : Held} (hy : look L round = some y) (a b : Int) (ht : Turns L f) : Turns (put L round ⟨round, a, b⟩) (mset f round (i64 b)) := fun r => by
  unfold turnOf mset
  rw [look_putS hy]
  by_cases e : r = round
  · rw [if_pos e, if_pos e]; rfl
  · rw [if_neg e, if_neg e]
    exact ht r
theorem wdiv {len now : Int} (h1 : 1 ≤ len) (h0 : 0 ≤ now) (h2 : now ≤ 9223372036854775807) : IntKind.i64.wrap (now.tdiv len) = now / len := by
  rw [Int.tdiv_eq_ediv_of_nonneg h0]
  have a1 := Int.ediv_nonneg h0 (show 0 ≤ len by omega)
  have a2 := Int.ediv_le_self len h0
  exact w64 (by omega) (by omega)
def lc (len : Int) (h u : Nat) : List Value := [i64 len, .map (some h), .map (some u)]
end Go.Lane
namespace Go.Txs
open Go.Sx
open Go.Note (Z I64)
structure Ln where
  round : Int
  turn : Int
  hand : List UInt8
def Ln.cells (x : Ln) : List Value := i64 x.round :: i64 x.turn :: x.hand.map u8
instance : DecidableEq Ln := fun x y => decidable_of_iff (x.round = y.round ∧ x.turn = y.turn ∧ x.hand = y.hand) (by cases x; cases y; simp)
def F4 (t : Tx) : List (List UInt8) := [Note.num t.src, Note.num t.nonce, Note.num t.fee, Note.num t.dst]
theorem fields_no {t : Tx} (h : t.lane = false) : fields t = F4 t ++ [t.data] := by unfold fields F4; rw [if_neg (by rw [h]; decide)]; simp
theorem fields_yes {t : Tx} (h : t.lane = true) : fields t = F4 t ++ [t.data] ++ [Note.num t.round, Note.num t.turn] := by unfold fields F4; rw [if_pos h]; simp
end Go.Txs
namespace Go.Lane
open Go.Sx
open Go.Txs (Tx within)
open Go.Note (Z I64)
theorem set_neg {l : Lane} {r who : Int} (h : r < 0) : set l r who = (l, 2) := by unfold set; rw [if_pos h]
theorem set_who {l : Lane} {r who : Int} (h : ¬ r < 0) (h1 : ¬ within who 63) : set l r who = (l, 20) := by unfold set; rw [if_neg h, if_pos h1]
theorem set_twice {len : Int} {L : List Held} {r who : Int} (h : ¬ r < 0) (h1 : within who 63) (h2 : (hm L r).isSome = true) : set ⟨len, L⟩ r who = (⟨len, L⟩, 23) := by
  have h3 : (look L r).isSome = true := by simpa [hm] using h2
  unfold set
  rw [if_neg h, if_neg (fun x => x h1), if_pos h3]
theorem hm_none {L : List Held} {r : Int} (h : (hm L r).isSome = false) : look L r = none := by
  unfold hm at h
  cases e : look L r with
  | none => rfl
  | some x => rw [e] at h; simp at h
theorem set_ok {len : Int} {L : List Held} {r who : Int} (h : ¬ r < 0) (h1 : within who 63) (h2 : (hm L r).isSome = false) : set ⟨len, L⟩ r who = (⟨len, L ++ [⟨r, who, 0⟩]⟩, 0) := by
  have h3 := hm_none h2
  unfold set
  rw [if_neg h, if_neg (fun x => x h1), if_neg (by simp [h3])]
theorem who_none {L : List Held} {r : Int} (h : (whoOf L r).2 = false) : look L r = none := hm_none (by rw [hm_some]; exact h)
theorem who_some {L : List Held} {r : Int} (h : (whoOf L r).2 = true) : ∃ y, look L r = some y ∧ (whoOf L r).1 = y.who := by
  unfold whoOf at h ⊢
  cases e : look L r with
  | none => rw [e] at h; simp at h
  | some x => exact ⟨x, rfl, rfl⟩
theorem give_who {l : Lane} {r src dst now : Int} (h : ¬ within src 63 ∨ ¬ within dst 63) : give l r src dst now = (l, 20) := by unfold give; rw [if_pos h]
theorem no_or {p q : Prop} (hp : p) (hq : q) : ¬ (¬ p ∨ ¬ q) := fun h => h.elim (fun x => x hp) (fun x => x hq)
theorem give_none {len : Int} {L : List Held} {r src dst now : Int} (h1 : within src 63) (h2 : within dst 63) (h : (whoOf L r).2 = false) : give ⟨len, L⟩ r src dst now = (⟨len, L⟩, 34) := by
  unfold give
  rw [if_neg (no_or h1 h2)]
  simp only [who_none h]
theorem give_tag {len : Int} {L : List Held} {r src dst now : Int} (h1 : within src 63) (h2 : within dst 63) (h : (whoOf L r).2 = true) (h3 : (whoOf L r).1 ≠ src) : give ⟨len, L⟩ r src dst now = (⟨len, L⟩, 21) := by
  obtain ⟨y, hy, e⟩ := who_some h
  unfold give
  rw [if_neg (no_or h1 h2)]
  simp only [hy]
  rw [if_pos (by rw [← e]; exact h3)]
theorem give_late {len : Int} {L : List Held} {r src dst now : Int} (h1 : within src 63) (h2 : within dst 63) (h : (whoOf L r).2 = true) (h3 : (whoOf L r).1 = src) (h4 : r < roundOf len now) : give ⟨len, L⟩ r src dst now = (⟨len, L⟩, 26) := by
  obtain ⟨y, hy, e⟩ := who_some h
  unfold give
  rw [if_neg (no_or h1 h2)]
  simp only [hy]
  rw [if_neg (by rw [← e]; exact fun x => x h3), if_pos h4]
theorem give_ok {l : Lane} {r src dst now : Int} (h1 : within src 63) (h2 : within dst 63) (h : (whoOf l.L r).2 = true) (h3 : (whoOf l.L r).1 = src) (h4 : ¬ r < roundOf l.length now) : ∃ y, look l.L r = some y ∧ give l r src dst now = (⟨l.length, put l.L r ⟨r, dst, y.turn⟩⟩, 0) := by
  obtain ⟨y, hy, e⟩ := who_some h
  refine ⟨y, hy, ?_⟩
  unfold give
  rw [if_neg (no_or h1 h2)]
  simp only [hy]
  rw [if_neg (by rw [← e]; exact fun x => x h3), if_neg h4]
end Go.Lane
namespace Go.Txs
theorem hand_err {t : Tx} {who : Int} (h : (body t).2 ≠ 0) : hand t who = (Tx.zero, (body t).2) := by unfold hand; rw [if_pos h]
theorem hand_who {t : Tx} {who : Int} (h : ¬ (body t).2 ≠ 0) (h1 : ¬ within who 63) : hand t who = (Tx.zero, 20) := by unfold hand; rw [if_neg h, if_pos h1]
theorem hand_lane {t : Tx} {who : Int} (h : ¬ (body t).2 ≠ 0) (h1 : within who 63) (h2 : t.lane = false) : hand t who = (Tx.zero, 2) := by unfold hand; rw [if_neg h, if_neg (fun x => x h1), if_pos h2]
theorem hand_ok {t : Tx} {who : Int} (h : ¬ (body t).2 ≠ 0) (h1 : within who 63) (h2 : t.lane = true) : hand t who = ({ t with hand := (Seal.tag who 2 (body t).1).1 }, 0) := by unfold hand; rw [if_neg h, if_neg (fun x => x h1), if_neg (by rw [h2]; decide)]
theorem body_yes {t : Tx} (h : ¬ check t ≠ 0) : body t = Oct.list (fields t) := by unfold body; rw [if_neg h]
end Go.Txs
namespace Go.Lane
open Go.Txs (Tx within)
open Go.Note (Z I64)
theorem good_who {l : Lane} (hg : Good l) (r : Int) : within (whoOf l.L r).1 63 := by
  unfold whoOf
  cases e : look l.L r with
  | none => exact ⟨by decide, by decide⟩
  | some x => exact (hg.at_ r x e).2.1
theorem who64 {l : Lane} (hg : Good l) (r : Int) : I64 (whoOf l.L r).1 := by
  have h := good_who hg r
  unfold within at h
  exact ⟨by omega, by omega⟩
theorem chk_tx {l : Lane} {t : Tx} {now : Int} (h : Txs.check t ≠ 0) : check l t now = Txs.check t := by unfold check; rw [if_pos h]
theorem chk_lane {l : Lane} {t : Tx} {now : Int} (h : ¬ Txs.check t ≠ 0) (h1 : t.lane = false) : check l t now = 2 := by unfold check; rw [if_neg h, if_pos h1]
theorem chk_round {l : Lane} {t : Tx} {now : Int} (h : ¬ Txs.check t ≠ 0) (h1 : t.lane = true) (h2 : t.round ≠ roundOf l.length now) : check l t now = 29 := by unfold check; rw [if_neg h, if_neg (by rw [h1]; decide), if_pos h2]
theorem chk_none {l : Lane} {t : Tx} {now : Int} (h : ¬ Txs.check t ≠ 0) (h1 : t.lane = true) (h2 : ¬ t.round ≠ roundOf l.length now) (h3 : (whoOf l.L t.round).2 = false) : check l t now = 34 := by
  unfold check
  rw [if_neg h, if_neg (by rw [h1]; decide), if_neg h2]
  simp only [who_none h3]
theorem chk_tag {l : Lane} (hg : Good l) {t : Tx} {now : Int} (h : ¬ Txs.check t ≠ 0) (h1 : t.lane = true) (h2 : ¬ t.round ≠ roundOf l.length now) (h3 : (whoOf l.L t.round).2 = true) (h4 : ¬ Seal.check (whoOf l.L t.round).1 2 (Txs.body t).1 t.hand = 0) : check l t now = 21 := by
  obtain ⟨y, hy, e⟩ := who_some h3
  rw [Txs.seal_is (good_who hg _), e] at h4
  unfold check
  rw [if_neg h, if_neg (by rw [h1]; decide), if_neg h2]
  simp only [hy]
  rw [if_pos h4]
theorem chk_turn {l : Lane} (hg : Good l) {t : Tx} {now : Int} (h : ¬ Txs.check t ≠ 0) (h1 : t.lane = true) (h2 : ¬ t.round ≠ roundOf l.length now) (h3 : (whoOf l.L t.round).2 = true) (h4 : Seal.check (whoOf l.L t.round).1 2 (Txs.body t).1 t.hand = 0) (h5 : t.turn ≠ turnOf l.L t.round) : check l t now = 30 := by
  obtain ⟨y, hy, e⟩ := who_some h3
  rw [Txs.seal_is (good_who hg _), e] at h4
  unfold turnOf at h5
  unfold check
  rw [if_neg h, if_neg (by rw [h1]; decide), if_neg h2]
  simp only [hy] at h5 ⊢
  rw [if_neg (fun x => x h4), if_pos h5]
theorem chk_ok {l : Lane} (hg : Good l) {t : Tx} {now : Int} (h : ¬ Txs.check t ≠ 0) (h1 : t.lane = true) (h2 : ¬ t.round ≠ roundOf l.length now) (h3 : (whoOf l.L t.round).2 = true) (h4 : Seal.check (whoOf l.L t.round).1 2 (Txs.body t).1 t.hand = 0) (h5 : ¬ t.turn ≠ turnOf l.L t.round) : check l t now = 0 := by
  obtain ⟨y, hy, e⟩ := who_some h3
  rw [Txs.seal_is (good_who hg _), e] at h4
  unfold turnOf at h5
  unfold check
  rw [if_neg h, if_neg (by rw [h1]; decide), if_neg h2]
  simp only [hy] at h5 ⊢
  rw [if_neg (fun x => x h4), if_neg h5]
theorem take_is {l : Lane} {t : Tx} {now : Int} (h : check l t now = 0) : ∃ y, look l.L t.round = some y ∧ turnOf l.L t.round = y.turn ∧ (0 ≤ y.turn ∧ y.turn ≤ 1099511627776) ∧ take l t now = (⟨l.length, put l.L t.round ⟨t.round, y.who, y.turn + 1⟩⟩, 0) := by
  obtain ⟨x, h1, h2, h3, h4, h5, h6⟩ := check_turn h
  refine ⟨x, h1, by unfold turnOf; rw [h1], ?_, take_yes h h1⟩
  have := tx_turn (t := t) (by first | exact h6 | exact h6.1) h4
  omega
def awT : Tx := ⟨0, 0, 0, 0, [], true, 2, 0, Z, Z⟩
def awU : Tx := (Txs.hand awT 5).1
def awL : Lane := ⟨10, [⟨2, 5, 0⟩]⟩
theorem aw_good : Good awL := good_set (l := ⟨10, []⟩) (good_new ⟨by decide, by decide⟩) 2 5
theorem aw_set : set ⟨10, []⟩ 2 5 = (awL, 0) := by
  unfold set
  rw [if_neg (by decide), if_neg (by decide), if_neg (by simp [look])]
  rfl
theorem awT_check : Txs.check awT = 0 := by decide
theorem awT_body : (Txs.body awT).2 = 0 := by rw [Txs.body_err, awT_check]
theorem awU_is : Txs.hand awT 5 = ({ awT with hand := (Seal.tag 5 2 (Txs.body awT).1).1 }, 0) := Txs.hand_ok (by rw [awT_body]; decide) (by decide) rfl
theorem awU_eq : awU = { awT with hand := (Seal.tag 5 2 (Txs.body awT).1).1 } := by unfold awU; rw [awU_is]
theorem awT_wf : Txs.Tx.Wf awT := ⟨⟨by decide, by decide⟩, ⟨by decide, by decide⟩, ⟨by decide, by decide⟩, ⟨by decide, by decide⟩, by decide, ⟨by decide, by decide⟩, ⟨by decide, by decide⟩, by simp [awT, Z], by simp [awT, Z]⟩
theorem awU_wf : Txs.Tx.Wf awU := Txs.hand_wf awT_wf 5
theorem check_hand {t : Tx} (hl : t.lane = true) (x : List UInt8) : Txs.check { t with hand := x } = Txs.check t := by
  have e : Txs.okArg { t with hand := x } ↔ Txs.okArg t := by
    unfold Txs.okArg
    simp [hl]
  unfold Txs.check
  have e2 : (¬ Txs.okArg { t with hand := x }) = (¬ Txs.okArg t) := by rw [e]
  simp only [e2]
  rfl
theorem body_hand {t : Tx} (hl : t.lane = true) (x : List UInt8) : Txs.body { t with hand := x } = Txs.body t := by
  unfold Txs.body
  rw [check_hand hl]
  rfl
theorem aw_check : check awL awU 25 = 0 := by
  have hl : awU.lane = true := by rw [awU_eq]; rfl
  have hr : awU.round = 2 := by rw [awU_eq]; rfl
  have ht : awU.turn = 0 := by rw [awU_eq]; rfl
  have hb : Txs.body awU = Txs.body awT := by rw [awU_eq]; exact body_hand rfl _
  have hh : awU.hand = (Seal.tag 5 2 (Txs.body awT).1).1 := by rw [awU_eq]
  have hc : Txs.check awU = 0 := by rw [awU_eq, check_hand rfl, awT_check]
  have hw : whoOf awL.L 2 = (5, true) := rfl
  refine chk_ok aw_good (by rw [hc]; decide) hl (by rw [hr]; decide) (by rw [hr, hw]) ?_ (by rw [ht, hr]; decide)
  rw [hr, hw, Txs.seal_is ⟨by decide, by decide⟩, hb, hh]
theorem aw_take : (take awL awU 25).2 = 0 := by rw [take_err, aw_check]
theorem aw_again : (take (take awL awU 25).1 awU 25).2 = 30 := by rw [take_err]; exact (take_again aw_check).1
theorem aw_late : check (take (take awL awU 25).1 awU 25).1 awU 30 = 29 := by
  have hl : awU.lane = true := by rw [awU_eq]; rfl
  have hr : awU.round = 2 := by rw [awU_eq]; rfl
  have hc : Txs.check awU = 0 := by rw [awU_eq, check_hand rfl, awT_check]
  refine chk_round (by rw [hc]; decide) hl ?_
  rw [take_len, take_len, hr]
  decide
end Go.Lane
namespace Go.Lane
open Go.Sx
open Go.Txs (Tx within)
open Go.Note (Z I64)
def awL1 : List Held := (take awL awU 25).1.L
theorem eta2 {l : Lane} {n : Int} (h : l.length = n) : l = ⟨n, l.L⟩ := by subst h; cases l; rfl
theorem aw_eta : (take awL awU 25).1 = ⟨10, awL1⟩ := eta2 ((take_len awL awU 25).trans rfl)
def awL2 : List Held := (take ⟨10, awL1⟩ awU 25).1.L
theorem aw_eta2 : (take ⟨10, awL1⟩ awU 25).1 = ⟨10, awL2⟩ := eta2 ((take_len ⟨10, awL1⟩ awU 25).trans rfl)
theorem aw_good1 : Good ⟨10, awL1⟩ := by rw [← aw_eta]; exact good_take aw_good awU 25
theorem aw_good2 : Good ⟨10, awL2⟩ := by rw [← aw_eta2]; exact good_take aw_good1 awU 25
theorem aw_againP : (take ⟨10, awL1⟩ awU 25).2 = 30 := by rw [← aw_eta]; exact aw_again
theorem aw_lateP : check ⟨10, awL2⟩ awU 30 = 29 := by rw [← aw_eta2, ← aw_eta]; exact aw_late
theorem aw_turns : Turns awL.L (fun _ => none) := turns_set (L := []) rfl turns_nil
structure Act where
  kind : Int
  round : Int
  a : Int
  b : Int
  now : Int
  hand : Int
  turn : Bool
  tx : Tx
def Act.zero : Act := ⟨0, 0, 0, 0, 0, 0, false, Tx.zero⟩
def Act.cells (x : Act) : List Value := i64 x.kind :: i64 x.round :: i64 x.a :: i64 x.b :: i64 x.now :: i64 x.hand :: .bool x.turn :: i64 x.tx.src :: i64 x.tx.nonce :: i64 x.tx.fee :: i64 x.tx.dst :: str x.tx.data :: .bool x.tx.lane :: i64 x.tx.round :: i64 x.tx.turn :: (x.tx.hand.map u8 ++ x.tx.tag.map u8)
structure Act.Wf (x : Act) : Prop where
  kind : I64 x.kind
  round : I64 x.round
  a : I64 x.a
  b : I64 x.b
  now : I64 x.now
  hand : I64 x.hand
  tx : Tx.Wf x.tx
theorem Act.cells_len {x : Act} (h : x.tx.hand.length = 32) (h1 : x.tx.tag.length = 32) : x.cells.length = 79 := by simp [Act.cells, h, h1]
end Go.Lane
namespace Go.Lane
open Go.Sx
open Go.Txs (Tx within)
open Go.Note (Z I64)
theorem xrem {len now : Int} (h1 : 1 ≤ len) (h0 : 0 ≤ now) : 0 ≤ now % len ∧ now % len ≤ now := ⟨Int.emod_nonneg _ (by omega), by
  have a1 := Int.emod_add_mul_ediv now len
  have a2 := Int.mul_nonneg (show 0 ≤ len by omega) (Int.ediv_nonneg h0 (show 0 ≤ len by omega))
  omega⟩
theorem xdiv {len now : Int} (h1 : 1 ≤ len) (h0 : 0 ≤ now) (h2 : now ≤ 9223372036854775807) : IntKind.i64.wrap ((now - now % len).tdiv len) = now / len := by
  have a1 := Int.emod_add_mul_ediv now len
  have e : now - now % len = len * (now / len) := by omega
  have a2 := Int.ediv_nonneg h0 (show 0 ≤ len by omega)
  have a3 := Int.ediv_le_self len h0
  rw [e, Int.mul_tdiv_cancel_left _ (by omega)]
  exact w64 (by omega) (by omega)
def atOf (L : List Held) (r : Int) : Int := match place L r with
  | some i => (i : Int)
  | none => -1
theorem place_is {L : List Held} {r : Int} {k : Nat} (hk : k < L.length) (h : (L.getD k Held.zero).round = r) (ha : ∀ j, j < k → (L.getD j Held.zero).round ≠ r) : place L r = some k := by
  unfold place
  rw [List.findIdx?_eq_some_iff_getElem]
  refine ⟨hk, ?_, fun j hj => ?_⟩
  · rw [Oct.getD_eq _ hk] at h
    simp [isAt, h]
  · have := ha j hj
    rw [Oct.getD_eq _ (by omega)] at this
    simp [isAt, this]
theorem place_no {L : List Held} {r : Int} (ha : ∀ j, j < L.length → (L.getD j Held.zero).round ≠ r) : place L r = none := by
  unfold place
  rw [List.findIdx?_eq_none_iff]
  intro x hx
  obtain ⟨j, hj, rfl⟩ := List.mem_iff_getElem.1 hx
  have := ha j hj
  rw [Oct.getD_eq _ hj] at this
  simp [isAt, this]
theorem at_is {L : List Held} {r : Int} {k : Nat} (hk : k < L.length) (h : (L.getD k Held.zero).round = r) (ha : ∀ j, j < k → (L.getD j Held.zero).round ≠ r) : atOf L r = (k : Int) := by unfold atOf; rw [place_is hk h ha]
theorem at_no {L : List Held} {r : Int} (ha : ∀ j, j < L.length → (L.getD j Held.zero).round ≠ r) : atOf L r = -1 := by unfold atOf; rw [place_no ha]
theorem at_look {L : List Held} {r : Int} (h : ¬ atOf L r < 0) : ∃ i, i < L.length ∧ atOf L r = (i : Int) ∧ place L r = some i ∧ look L r = some (L.getD i Held.zero) := by
  unfold atOf at h ⊢
  cases e : place L r with
  | none => rw [e] at h; simp at h
  | some i =>
    refine ⟨i, ?_, rfl, rfl, ?_⟩
    · have := List.findIdx?_eq_some_iff_getElem.1 e
      exact this.1
    · rw [look_place, e]; rfl
theorem at_none {L : List Held} {r : Int} (h : atOf L r < 0) : look L r = none := by
  unfold atOf at h
  cases e : place L r with
  | none => rw [look_place, e]; rfl
  | some i => rw [e] at h; simp at h; omega
theorem at_hm {L : List Held} {r : Int} : (hm L r).isSome = decide (0 ≤ atOf L r) := by
  by_cases h : atOf L r < 0
  · rw [decide_eq_false (by omega)]
    unfold hm
    rw [at_none h]
    rfl
  · obtain ⟨i, _, _, _, h4⟩ := at_look h
    rw [decide_eq_true (by omega)]
    unfold hm
    rw [h4]
    rfl
theorem at_who {L : List Held} {r : Int} {i : Nat} (h : look L r = some (L.getD i Held.zero)) : whoOf L r = ((L.getD i Held.zero).who, true) ∧ turnOf L r = (L.getD i Held.zero).turn := by
  unfold whoOf turnOf
  rw [h]
  exact ⟨rfl, rfl⟩
theorem who_at {L : List Held} {r : Int} (h : atOf L r < 0) : whoOf L r = (0, false) ∧ turnOf L r = 0 := by
  unfold whoOf turnOf
  rw [at_none h]
  exact ⟨rfl, rfl⟩
theorem hc_set : ∀ (L : List Held) (i : Nat) (x : Held), i < L.length → hc (L.set i x) = spl (hc L) (i * 3) (Held.cells x)
  | [], i, x, h => by simp at h
  | y :: L, 0, x, _ => by simp [hc, spl, Held.cells]
  | y :: L, i + 1, x, h => by
    have ih := hc_set L i x (by simpa using h)
    have e : hc (y :: L) = Held.cells y ++ hc L := by simp [hc]
    have e2 : hc ((y :: L).set (i + 1) x) = Held.cells y ++ hc (L.set i x) := by simp [hc]
    rw [e2, ih, e]
    have h3 : (Held.cells y).length = 3 := rfl
    unfold spl
    rw [show (i + 1) * 3 = 3 + i * 3 by omega, List.take_append, List.drop_append, h3, List.take_of_length_le (l := Held.cells y) (by rw [h3]; omega), List.drop_eq_nil_of_le (as := Held.cells y) (by rw [h3]; omega)]
    simp [Held.cells, show 3 + i * 3 - 3 = i * 3 by omega, show 3 + i * 3 + 3 - 3 = i * 3 + 3 by omega]
theorem put_at {L : List Held} {r : Int} {i : Nat} (h : place L r = some i) (x : Held) : put L r x = L.set i x := by unfold put; rw [h]
def tx0 (l : Lane) (c : Act) : Tx := if c.turn = true ∧ c.tx.lane = true then { c.tx with round := roundOf l.length c.now, turn := turnOf l.L (roundOf l.length c.now) } else c.tx
def txOf (l : Lane) (c : Act) : Tx := if c.hand < 0 then tx0 l c else if (Txs.hand (tx0 l c) c.hand).2 = 0 then (Txs.hand (tx0 l c) c.hand).1 else tx0 l c
def doo (l : Lane) (c : Act) : Lane :=
  if c.kind = 0 then (set l c.round c.a).1 else if c.kind = 1 then (give l c.round c.a c.b c.now).1 else if c.kind = 2 then l else (take l (txOf l c) c.now).1
theorem good_doo {l : Lane} (h : Good l) (c : Act) : Good (doo l c) := by
  unfold doo
  split
  · exact good_set h _ _
  · split
    · exact good_give h _ _ _ _
    · split
      · exact h
      · exact good_take h _ _
theorem set_len (l : Lane) (r who : Int) : (set l r who).1.length = l.length := by
  unfold set
  repeat (first | rfl | split)
theorem give_len (l : Lane) (r a b now : Int) : (give l r a b now).1.length = l.length := by
  unfold give
  repeat (first | rfl | split)
theorem doo_len (l : Lane) (c : Act) : (doo l c).length = l.length := by
  unfold doo
  split
  · exact set_len _ _ _
  · split
    · exact give_len _ _ _ _ _
    · split
      · rfl
      · exact take_len _ _ _
theorem doo_eta (len : Int) (L : List Held) (c : Act) : doo ⟨len, L⟩ c = ⟨len, (doo ⟨len, L⟩ c).L⟩ := eta2 (doo_len _ _)
theorem round64 {len now : Int} (h1 : 1 ≤ len) (h : I64 now) : I64 (roundOf len now) := by
  obtain ⟨h2, h3⟩ := h
  by_cases h0 : now < 0
  · rw [round_neg h0]; exact ⟨by decide, by decide⟩
  · have := round_fits (length := len) (now := now) h1 (by omega)
    exact ⟨by omega, by omega⟩
theorem turn64 {l : Lane} (hg : Good l) (r : Int) : I64 (turnOf l.L r) := by
  unfold turnOf
  cases e : look l.L r with
  | none => exact ⟨by decide, by decide⟩
  | some x =>
    have := (hg.at_ r x e).2.2
    show I64 x.turn
    exact ⟨by omega, by omega⟩
theorem tx0_wf {l : Lane} (hg : Good l) {c : Act} (wc : Act.Wf c) : Tx.Wf (tx0 l c) := by
  unfold tx0
  split
  · exact { wc.tx with round := round64 hg.len.1 wc.now, turn := turn64 hg _ }
  · exact wc.tx
theorem txOf_wf {l : Lane} (hg : Good l) {c : Act} (wc : Act.Wf c) : Tx.Wf (txOf l c) := by
  unfold txOf
  split
  · exact tx0_wf hg wc
  · split
    · exact Txs.hand_wf (tx0_wf hg wc) _
    · exact tx0_wf hg wc
end Go.Lane
namespace Go.Lane
open Go.Sx
open Go.Txs (Tx within)
open Go.Note (Z I64)
open Go.Inbox (flat_lenM flat_takeM flat_getM memD)
theorem tx0_yes {l : Lane} {c : Act} (h : c.turn = true) (h1 : c.tx.lane = true) : tx0 l c = { c.tx with round := roundOf l.length c.now, turn := turnOf l.L (roundOf l.length c.now) } := if_pos ⟨h, h1⟩
theorem tx0_no {l : Lane} {c : Act} (h : c.turn = false) : tx0 l c = c.tx := if_neg (fun x => by rw [h] at x; exact absurd x.1 (by decide))
theorem tx0_not {l : Lane} {c : Act} (h : c.tx.lane = false) : tx0 l c = c.tx := if_neg (fun x => by rw [h] at x; exact absurd x.2 (by decide))
theorem txOf_neg {l : Lane} {c : Act} (h : c.hand < 0) : txOf l c = tx0 l c := if_pos h
theorem txOf_ok {l : Lane} {c : Act} (h : ¬ c.hand < 0) (h1 : (Txs.hand (tx0 l c) c.hand).2 = 0) : txOf l c = (Txs.hand (tx0 l c) c.hand).1 := by unfold txOf; rw [if_neg h, if_pos h1]
theorem txOf_err {l : Lane} {c : Act} (h : ¬ c.hand < 0) (h1 : ¬ (Txs.hand (tx0 l c) c.hand).2 = 0) : txOf l c = tx0 l c := by unfold txOf; rw [if_neg h, if_neg h1]
theorem doo_set {l : Lane} {c : Act} (h : c.kind = 0) : doo l c = (set l c.round c.a).1 := if_pos h
theorem doo_give {l : Lane} {c : Act} (h : ¬ c.kind = 0) (h1 : c.kind = 1) : doo l c = (give l c.round c.a c.b c.now).1 := by unfold doo; rw [if_neg h, if_pos h1]
theorem doo_none {l : Lane} {c : Act} (h : ¬ c.kind = 0) (h1 : ¬ c.kind = 1) (h2 : c.kind = 2) : doo l c = l := by unfold doo; rw [if_neg h, if_neg h1, if_pos h2]
theorem doo_take {l : Lane} {c : Act} (h : ¬ c.kind = 0) (h1 : ¬ c.kind = 1) (h2 : ¬ c.kind = 2) : doo l c = (take l (txOf l c) c.now).1 := by unfold doo; rw [if_neg h, if_neg h1, if_neg h2]
theorem turns_of_set {len : Int} {L : List Held} {f : Int → Option Value} (h : Turns L f) (r who : Int) : Turns (set ⟨len, L⟩ r who).1.L f := by
  unfold set
  split
  · exact h
  · split
    · exact h
    · split
      · exact h
      · rename_i h3
        refine turns_set ?_ h
        cases e : look L r with
        | none => rfl
        | some x => exact absurd (show (look L r).isSome = true by rw [e]; rfl) h3
theorem turns_of_give {len : Int} {L : List Held} {f : Int → Option Value} (h : Turns L f) (r src dst now : Int) : Turns (give ⟨len, L⟩ r src dst now).1.L f := by
  unfold give
  split
  · exact h
  · split
    · exact h
    · rename_i x hx
      split
      · exact h
      · split
        · exact h
        · exact turns_give hx _ h
theorem put_len (L : List Held) (r : Int) (x : Held) : (put L r x).length = L.length := by
  unfold put
  split
  · simp
  · rfl
theorem doo_more (len : Int) (L : List Held) (c : Act) : (doo ⟨len, L⟩ c).L.length ≤ L.length + 1 := by
  unfold doo
  split
  · unfold set
    repeat (first | (show L.length ≤ L.length + 1; omega) | (show (L ++ [_]).length ≤ L.length + 1; simp; done) | split)
  · split
    · unfold give
      split
      · exact Nat.le_succ _
      · split
        · exact Nat.le_succ _
        · split
          · exact Nat.le_succ _
          · split
            · exact Nat.le_succ _
            · show (put L _ _).length ≤ _
              rw [put_len]
              exact Nat.le_succ _
    · split
      · exact Nat.le_succ _
      · unfold take
        split
        · exact Nat.le_succ _
        · split
          · exact Nat.le_succ _
          · show (put L _ _).length ≤ _
            rw [put_len]
            exact Nat.le_succ _
theorem fps_right {b : Nat} {l m : List It} (h : b ∈ fps m) : b ∈ fps (l ++ m) := by
  unfold fps at *
  rw [List.flatMap_append]
  exact List.mem_append_right _ h
def acs (l : List Act) : List Value := (l.map Act.cells).flatten
theorem acs_len {l : List Act} (h : ∀ x ∈ l, Act.Wf x) : (acs l).length = l.length * 79 := flat_lenM l fun x hx => Act.cells_len (h x hx).tx.hand (h x hx).tx.tag
theorem acs_take {l : List Act} (h : ∀ x ∈ l, Act.Wf x) (i : Nat) (hi : i < l.length) : ((acs l).drop (i * 79)).take 79 = Act.cells (l.getD i Act.zero) := flat_takeM _ l i (fun x hx => Act.cells_len (h x hx).tx.hand (h x hx).tx.tag) hi
theorem actD {l : List Act} (h : ∀ x ∈ l, Act.Wf x) {k : Nat} (hk : k < l.length) : Act.Wf (l.getD k Act.zero) := h _ (by rw [Oct.getD_eq _ hk]; exact List.getElem_mem _)
end Go.Lane
namespace Go.Lane
open Go.Txs (Tx within)
theorem take_eta (len : Int) (L : List Held) (t : Tx) (now : Int) : (take ⟨len, L⟩ t now).1 = ⟨len, (take ⟨len, L⟩ t now).1.L⟩ := eta2 (take_len _ _ _)
theorem good_doo2 {len : Int} {L : List Held} (h : Good ⟨len, L⟩) (c : Act) : Good ⟨len, (doo ⟨len, L⟩ c).L⟩ := by rw [← doo_eta]; exact good_doo h c
theorem good_take2 {len : Int} {L : List Held} (h : Good ⟨len, L⟩) (t : Tx) (now : Int) : Good ⟨len, (take ⟨len, L⟩ t now).1.L⟩ := by rw [← take_eta]; exact good_take h t now
theorem again2 {len : Int} {L : List Held} {t : Tx} {now : Int} (h : check ⟨len, L⟩ t now = 0) : check ⟨len, (take ⟨len, L⟩ t now).1.L⟩ t now = 30 ∧ turnOf (take ⟨len, L⟩ t now).1.L t.round = turnOf L t.round + 1 := by
  rw [← take_eta]
  exact take_again h
end Go.Lane
