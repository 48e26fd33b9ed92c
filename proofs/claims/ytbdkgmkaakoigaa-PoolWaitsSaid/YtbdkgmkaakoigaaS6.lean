/- Part of a proof about given Go functions: contracts of functions, or plain laws. -/
import Derived.Test.YtbdkgmkaakoigaaS5
import Derived.Test.YtbdkgmkaakoigaaS4
/- Own words: maps with integer keys that a call owns. -/
set_option linter.unusedVariables false
set_option linter.unusedSimpArgs false
namespace Go.Sx
open Go.RowKit
/-- What a list of entries holds at a key. -/
def mf : List MapEntry → Int → Option Value
  | [], _ => none
  | e :: es, k => match e.key with
    | .int .i64 a => if a = k then some e.val else mf es k
    | _ => mf es k
structure MapOk (es : List MapEntry) (clock : Nat) (f : Int → Option Value) : Prop where
  keys : ∀ e ∈ es, ∃ a, e.key = .int .i64 a
  apart : es.Pairwise fun x y => x.key ≠ y.key
  at_ : ∀ k, mf es k = f k
  old : ∀ e ∈ es, e.born < clock
  born : es.Pairwise fun x y => x.born ≠ y.born
theorem mf_none {es : List MapEntry} {k : Int} (h : mf es k = none) : ∀ e ∈ es, e.key ≠ .int .i64 k := by
  induction es with
  | nil => intro e he; cases he
  | cons x es ih =>
    intro e he hk
    simp only [mf] at h
    rcases List.mem_cons.1 he with rfl | he
    · rw [hk] at h; simp at h
    · refine ih ?_ e he hk
      split at h
      · split at h
        · simp at h
        · exact h
      · exact h
theorem findNow_some {es : List MapEntry} {k : Int} {v : Value} (hk : ∀ e ∈ es, ∃ a, e.key = .int .i64 a) (h : mf es k = some v) : ∃ j e, es[j]? = some e ∧ e.key = .int .i64 k ∧ e.val = v ∧ ∀ i, Instr.findNow (.int .i64) (.int .i64 k) es i = some (some (i + j, v)) := by
  induction es with
  | nil => simp [mf] at h
  | cons x es ih =>
    obtain ⟨a, ha⟩ := hk x List.mem_cons_self
    by_cases hak : a = k
    · subst hak
      simp only [mf, ha, if_true] at h
      refine ⟨0, x, rfl, ha, by simpa using h, fun i => ?_⟩
      simp only [Instr.findNow, ha, Instr.sameNow]
      simpa using h
    · have h' : mf es k = some v := by
        simp only [mf, ha] at h
        rw [if_neg hak] at h
        exact h
      obtain ⟨j, e, h1, h2, h3, h4⟩ := ih (fun e he => hk e (List.mem_cons_of_mem _ he)) h'
      refine ⟨j + 1, e, by simpa using h1, h2, h3, fun i => ?_⟩
      have hak' : ¬ k = a := fun e => hak e.symm
      have hb : (k == a) = false := beq_eq_false_iff_ne.2 hak'
      simp only [Instr.findNow, ha, Instr.sameNow, if_true, hb]
      rw [h4 (i + 1), show i + 1 + j = i + (j + 1) by omega]
theorem mf_append (es : List MapEntry) (x : MapEntry) (k a : Int) (hk : ∀ e ∈ es, ∃ a, e.key = .int .i64 a) (hx : x.key = .int .i64 a) (h : mf es a = none) : mf (es ++ [x]) k = if k = a then some x.val else mf es k := by
  induction es with
  | nil =>
    simp only [List.nil_append, mf, hx]
    by_cases hak : a = k
    · subst hak; simp
    · rw [if_neg hak, if_neg (fun e => hak e.symm)]
  | cons y es ih =>
    obtain ⟨b, hb⟩ := hk y List.mem_cons_self
    simp only [List.cons_append, mf, hb] at h ⊢
    split at h
    · simp at h
    · rename_i hba
      have ih' := ih (fun e he => hk e (List.mem_cons_of_mem _ he)) h
      by_cases hbk : b = k
      · subst hbk
        rw [if_pos rfl, if_pos rfl, if_neg hba]
      · rw [if_neg hbk, if_neg hbk]
        exact ih'
theorem mf_erase {es : List MapEntry} {j : Nat} {e : MapEntry} {k : Int} (hk : ∀ e ∈ es, ∃ a, e.key = .int .i64 a) (hp : es.Pairwise fun x y => x.key ≠ y.key) (hj : es[j]? = some e) (he : e.key = .int .i64 k) (a : Int) :
    mf (es.eraseIdx j) a = if a = k then none else mf es a := by
  induction es generalizing j with
  | nil => simp at hj
  | cons x es ih =>
    obtain ⟨b, hb⟩ := hk x List.mem_cons_self
    cases j with
    | zero =>
      obtain rfl : x = e := by simpa using hj
      have hbk : b = k := by rw [hb] at he; injection he
      subst hbk
      simp only [List.eraseIdx_zero, List.tail_cons, mf, hb]
      by_cases hak : b = a
      · subst hak
        rw [if_pos rfl]
        cases hm : mf es b with
        | none => rfl
        | some v =>
          exfalso
          obtain ⟨j', e', h1, h2, _⟩ := findNow_some (fun e he => hk e (List.mem_cons_of_mem _ he)) hm
          exact (List.pairwise_cons.1 hp).1 e' (List.mem_of_getElem? h1) (by rw [hb, h2])
      · rw [if_neg hak, if_neg (fun e => hak e.symm)]
    | succ j =>
      have hj' : es[j]? = some e := by simpa using hj
      have hm : e ∈ es := List.mem_of_getElem? hj'
      have hne := (List.pairwise_cons.1 hp).1 e hm
      have hbk : ¬ b = k := fun h => hne (by rw [hb, he, h])
      simp only [List.eraseIdx_cons_succ, mf, hb]
      by_cases hak : b = a
      · subst hak
        rw [if_pos rfl, if_pos rfl, if_neg hbk]
      · rw [if_neg hak, if_neg hak]
        exact ih (fun e he => hk e (List.mem_cons_of_mem _ he)) (List.pairwise_cons.1 hp).2 hj'
/-- A map with one key set. -/
def mset (f : Int → Option Value) (k : Int) (v : Value) : Int → Option Value := fun a => if a = k then some v else f a
def mdel (f : Int → Option Value) (k : Int) : Int → Option Value := fun a => if a = k then none else f a
theorem MapOk.push {es : List MapEntry} {clock : Nat} {f : Int → Option Value} (h : MapOk es clock f) {k : Int} {u : Value} (hn : f k = none) : MapOk (es ++ [⟨.int .i64 k, u, clock⟩]) (clock + 1) (mset f k u) where
  keys := fun x hx => by
    rcases List.mem_append.1 hx with hx | hx
    · exact h.keys x hx
    · rw [List.mem_singleton.1 hx]; exact ⟨k, rfl⟩
  apart := by
    refine List.pairwise_append.2 ⟨h.apart, List.pairwise_singleton _ _, fun x hx y hy => ?_⟩
    rw [List.mem_singleton.1 hy]
    exact mf_none (by rw [h.at_, hn]) x hx
  at_ := fun a => by rw [mf_append _ _ _ k h.keys rfl (by rw [h.at_, hn]), h.at_]; rfl
  old := fun x hx => by
    rcases List.mem_append.1 hx with hx | hx
    · have := h.old x hx; omega
    · rw [List.mem_singleton.1 hx]; exact Nat.lt_succ_self _
  born := by
    refine List.pairwise_append.2 ⟨h.born, List.pairwise_singleton _ _, fun x hx y hy => ?_⟩
    rw [List.mem_singleton.1 hy]
    have := h.old x hx
    show x.born ≠ clock
    omega
theorem MapOk.erase {es : List MapEntry} {clock : Nat} {f : Int → Option Value} (h : MapOk es clock f) {j : Nat} {e : MapEntry} {k : Int} (hj : es[j]? = some e) (he : e.key = .int .i64 k) : MapOk (es.eraseIdx j) clock (mdel f k) where
  keys := fun x hx => h.keys x (List.mem_of_mem_eraseIdx hx)
  apart := h.apart.sublist (List.eraseIdx_sublist _ _)
  at_ := fun a => by rw [mf_erase h.keys h.apart hj he, h.at_]; rfl
  old := fun x hx => h.old x (List.mem_of_mem_eraseIdx hx)
  born := h.born.sublist (List.eraseIdx_sublist _ _)
/-! ### Items -/
section
variable {P : Program} {n : Nat} {S : List Nat} {w0 : World} {ss : List (Nat × Value)} {l : List It} {o : Oper}
variable {ops : Array Oper} {rest : List Oper} {Q : Exit → Act → World → Prop} {a : Act} {w : World}
theorem upd_mem {l l' : List It} {i i' : It} (h : Upd l i i' l') : i ∈ l := by
  obtain ⟨r, h1, _⟩ := h.perm
  exact h1.symm.subset (by simp)
/-- A call that is given some items, which stand by themselves. -/
theorem st_callk2 {d : Nat} {f : FuncId} {args : List Value} {is lr : List It} {Φ : Value → List It → Prop} (he : Enters P n ss o f args) (hw : wantB ops ss o = some true) (hd : o.dst = some d) (hn : Nat.ble (d + 1) n = true) (H : St n S w0 ss l a w)
    (hp : Picks l is lr) (hk : Sep (fps is) w w is → Calls P f args.toArray w (Post (fps is) w Φ)) (K : ∀ v l' a' w', Φ v l' → St n S w0 ((d, v) :: ss) (l' ++ lr) a' w' → wpList P ops Q rest a' w') : wpList P ops Q (o :: rest) a w :=
  st_callk he hw hd hn H hp (hk (Sep.given H.sep hp)) K
/-- A function value that hands back one value and no memory. -/
theorem qcallv {Qa : Act → Prop} {d : Nat} {f : FuncId} {args : List Value} {v : Value} (he : Enters P n ss o f args) (hw : wantB ops ss o = some true) (hd : o.dst = some d) (hn : Nat.ble (d + 1) n = true) (H : Fr n ss a) (hk : ∀ w, Sep S w0 w l → Calls P f args.toArray w (Gives v [] w))
    (K : ∀ a', Fr n ((d, v) :: ss) a' → wpQuiet P ops (fun w' => Sep S w0 w' l) Qa rest a') : wpQuiet P ops (fun w' => Sep S w0 w' l) Qa (o :: rest) a := by
  unfold wpQuiet
  rw [if_pos (wanted_of H hw)]
  refine ⟨v, fun w hs => ?_, ?_⟩
  · unfold Oper.quietAt
    rw [he a w H]
    refine ⟨rfl, (hk w hs).mono ?_⟩
    rintro e w' ⟨u, l', rfl, ⟨rfl, rfl⟩, hs'⟩
    exact ⟨rfl, by simpa using hs.call0 hs'⟩
  · rw [hd]
    exact K _ (H.put (Nat.lt_of_succ_le (Nat.le_of_ble_eq_true hn)) v)
/-- What a call is not given stays. -/
theorem Sep.kept {is lr : List It} {j : It} {w' : World} (H : Sep S w0 w l) (hp : Picks l is lr) (hj : j ∈ lr) (F : Frm (fps is) w w') : j.P w' := by
  have h := H.perm hp.perm.symm
  have hP := h.all j (List.mem_append_right _ hj)
  refine j.st w w' (fun b hb => F.block b (j.lt w hP b hb) fun hm => ?_) hP
  obtain ⟨i, hi, hbi⟩ := mem_fps hm
  exact (List.pairwise_append.1 h.dis).2.2 i hi j hj b hbi hb
end
end Go.Sx

/- Auctions as cells. -/
namespace Go.Auction
open Go.Sx
open Go.Note (Z I64 Bid)
open Go.Inbox (flat_lenM flat_takeM flat_getM flat_pre memD)
def bdc (l : List Bid) : List Value := (l.map Bid.cells).flatten
def Win.cells (w : Win) : List Value := i64 w.bid.round :: i64 w.bid.who :: i64 w.bid.amount :: i64 w.bid.salt :: (w.bid.tag.map u8 ++ [i64 w.price])
def A1 : Bid := (Note.signBid ⟨1, 1, 10, 0, Z⟩).1
def A2 : Bid := (Note.signBid ⟨1, 2, 7, 0, Z⟩).1
section
variable {P : Program} {n : Nat} {S : List Nat} {w0 : World} {ss : List (Nat × Value)} {l : List It} {o : Oper}
end
/-- What a law of auctions is given. -/
structure Case where
  l : List Bid
  A : Option Addr
  c : Nat
  fs : List Int
  B : Option Addr
  e : Nat
  r : Int
  fl : Int
def Case.cells (x : Case) : List Value := [Value.slice x.A x.l.length x.c, Value.slice x.B x.fs.length x.e, i64 x.r, i64 x.fl]
def Case.Wf (W : World) (x : Case) : Prop := x.l.length ≤ x.c ∧ x.fs.length ≤ 9223372036854775807 ∧ (∀ b ∈ x.l, Bid.Wf b) ∧ Rd W x.A (bdc x.l) ∧ Rd W x.B (x.fs.map i64)
end Go.Auction
namespace Go.Note
end Go.Note

/- Own words: stores into the places of a slice that a call owns. -/
set_option linter.unusedVariables false
set_option linter.unusedSimpArgs false
namespace Go.Sx
open Go.RowKit
theorem spl_len {cs vs : List Value} {off : Nat} (h : off + vs.length ≤ cs.length) : (spl cs off vs).length = cs.length := by
  unfold spl
  rw [List.length_append, List.length_append, List.length_take, List.length_drop]
  omega
theorem take_spl {cs vs : List Value} {off m : Nat} (h : off + vs.length ≤ m) (hm : m ≤ cs.length) : (spl cs off vs).take m = spl (cs.take m) off vs := by
  unfold spl
  rw [List.take_append, List.take_append, List.length_append, List.length_take, List.take_take, List.take_take, List.take_of_length_le (l := vs) (by omega), List.drop_take, Nat.min_comm m off]
  congr 2
  omega
section
variable {P : Program} {n : Nat} {S : List Nat} {w0 : World} {ss : List (Nat × Value)} {l : List It} {o : Oper}
variable {ops : Array Oper} {rest : List Oper} {Q : Exit → Act → World → Prop} {a : Act} {w : World}
theorem st_storeRow {t E : TypeId} {x y : Operand} {A : Option Addr} {c m n' off z size : Nat} {xs vs : List Value} {v : Value} {l' : List It} (ho : o.op = .store t x y) (hz : sizeB P t = some z) (hx : evO ss x = some (.pointer (A.map (·.add off)))) (hy : evO ss y = some v) (hv : v.cells.toList = vs) (h1 : ∀ u ∈ vs, u.oneCell' = true) (hl : vs.length = z) (hp : 0 < z)
    (hu : Upd l (It.row E size (.slice A m c) n' xs) (It.row E size (.slice A m c) n' (spl xs off vs)) l') (hf : off + z ≤ xs.length) (hw : wantB ops ss o = some true) (hd : o.dst = none) (H : St n S w0 ss l a w)
    (K : ∀ w', St n S w0 ss l' a w' → wpList P ops Q rest a w') : wpList P ops Q (o :: rest) a w := by
  have hP : Row E size (.slice A m c) n' xs w := H.sep.all _ (upd_mem hu)
  obtain ⟨hlen, hrow⟩ := hP
  rcases hrow with ⟨_, h0⟩ | ⟨g, cap, cur, fz, hsl, hg, hnc, hcm, hsz, htk, hfz⟩
  · exfalso
    subst h0
    simp at hlen
    subst hlen
    simp at hf
    omega
  · injection hsl with e1 e2 e3
    subst e1 e2 e3
    have hcur : m * size ≤ cur.toList.length := by
      have : xs.length ≤ cur.toList.length := by rw [← htk, List.length_take]; omega
      omega
    have hfit : off + 0 + vs.length ≤ cur.size := by
      have : cur.toList.length = cur.size := by simp
      omega
    have h2 := run_storeFree (P := P) g off E fz vs 0 cur w hg hfz hfit h1
    have h3 : v.cells.size = z := by rw [← hl, ← hv]; simp
    have hadd : (⟨g, 0, none⟩ : Addr).add off = ⟨g, off, none⟩ := by rw [add_mk, Nat.zero_add]
    have hr : (Instr.storeAt t (.pointer ((some (⟨g, 0, none⟩ : Addr)).map (·.add off))) v).run P w = .ok () (w.setRow g (spl cur.toList off vs).toArray) := by
      simp only [Option.map_some, hadd, Instr.storeAt, Instr.sureAddr, storeVar, Sem.run_bind, Sem.run_pure, Result.andThen_ok, run_sizeOf' hz, h3, ne_eq, not_true_eq_false, if_false, hv]
      simpa [spl] using h2
    refine does_none (w' := w.setRow g (spl cur.toList off vs).toArray) hw hd H ?_ (H.sep.upd hu (i' := It.row E size (.slice (some ⟨g, 0, none⟩) m c) m (spl xs off vs)) ?_ ?_ ?_) (fun H' => K _ H')
    · have hx' : evO ss x = some (.pointer ((some (⟨g, 0, none⟩ : Addr)).map (·.add off))) := hx
      have hr2 : (Instr.storeAt t (.pointer (some ((⟨g, 0, none⟩ : Addr).add off))) v).run P w = .ok () (w.setRow g (spl cur.toList off vs).toArray) := hr
      simp [execOp, ho, H.fr.ev hx', H.fr.ev hy, hr2]
    · have := setRow_frm (w := w) (g := g) (spl cur.toList off vs).toArray
      simpa [It.row, Value.ownBlock] using this
    · refine ⟨by rw [spl_len (by omega)]; exact hlen, .inr ⟨g, c, (spl cur.toList off vs).toArray, fz, rfl, setRow_heap _ _ _ _ _ _ hg, hnc, hcm, ?_, ?_, ?_⟩⟩
      · have := spl_len (cs := cur.toList) (vs := vs) (off := off) (by simp; omega)
        simpa [hsz] using this
      · show (spl cur.toList off vs).take (m * size) = _
        rw [take_spl (by omega) hcur, htk]
      · rcases hfz with h | h
        · exact .inl h
        · right
          have := spl_len (cs := cur.toList) (vs := vs) (off := off) (by simp; omega)
          simp only [List.size_toArray, this]
          simpa using h
    · intro b' hb'
      exact .inl hb'
end
end Go.Sx

/- Transactions and lanes as cells and maps. -/
namespace Go.Txs
open Go.Sx
open Go.Note (Z I64)
def Tx.cells (t : Tx) : List Value := i64 t.src :: i64 t.nonce :: i64 t.fee :: i64 t.dst :: str t.data :: .bool t.lane :: i64 t.round :: i64 t.turn :: (t.hand.map u8 ++ t.tag.map u8)
structure Tx.Wf (t : Tx) : Prop where
  src : I64 t.src
  nonce : I64 t.nonce
  fee : I64 t.fee
  dst : I64 t.dst
  data : t.data.length ≤ 140737488351232
  round : I64 t.round
  turn : I64 t.turn
  hand : t.hand.length = 32
  tag : t.tag.length = 32
theorem Tx.cells_len {t : Tx} (h : t.hand.length = 32) (h1 : t.tag.length = 32) : t.cells.length = 72 := by simp [Tx.cells, h, h1]
theorem Tx.wf_zero : Tx.Wf Tx.zero := ⟨⟨by decide, by decide⟩, ⟨by decide, by decide⟩, ⟨by decide, by decide⟩, ⟨by decide, by decide⟩, by decide, ⟨by decide, by decide⟩, ⟨by decide, by decide⟩, by simp [Tx.zero, Z], by simp [Tx.zero, Z]⟩
end Go.Txs
namespace Go.Lane
open Go.Sx
open Go.Note (Z I64)
open Go.Inbox (flat_lenM flat_takeM flat_getM memD)
def Held.cells (x : Held) : List Value := [i64 x.round, i64 x.who, i64 x.turn]
def Held.zero : Held := ⟨0, 0, 0⟩
def hc (L : List Held) : List Value := (L.map Held.cells).flatten
/-- Who holds the rounds, as a map. -/
def hm (L : List Held) : Int → Option Value := fun r => (look L r).map fun x => i64 x.who
/-- A map that tells the turns. -/
def Turns (L : List Held) (f : Int → Option Value) : Prop := ∀ r, (f r).getD (i64 0) = i64 (turnOf L r)
end Go.Lane
namespace Go.Txs
open Go.Sx
open Go.Note (Z I64)
structure Ln where
  round : Int
  turn : Int
  hand : List UInt8
def Ln.cells (x : Ln) : List Value := i64 x.round :: i64 x.turn :: x.hand.map u8
instance : DecidableEq Ln := fun x y => decidable_of_iff (x.round = y.round ∧ x.turn = y.turn ∧ x.hand = y.hand) (by cases x; cases y; simp)
end Go.Txs
namespace Go.Lane
open Go.Sx
open Go.Txs (Tx within)
open Go.Note (Z I64)
end Go.Lane
namespace Go.Txs
end Go.Txs
namespace Go.Lane
open Go.Txs (Tx within)
open Go.Note (Z I64)
end Go.Lane
namespace Go.Lane
open Go.Sx
open Go.Txs (Tx within)
open Go.Note (Z I64)
structure Act where
  kind : Int
  round : Int
  a : Int
  b : Int
  now : Int
  hand : Int
  turn : Bool
  tx : Tx
def Act.zero : Act := ⟨0, 0, 0, 0, 0, 0, false, Tx.zero⟩
def Act.cells (x : Act) : List Value := i64 x.kind :: i64 x.round :: i64 x.a :: i64 x.b :: i64 x.now :: i64 x.hand :: .bool x.turn :: i64 x.tx.src :: i64 x.tx.nonce :: i64 x.tx.fee :: i64 x.tx.dst :: str x.tx.data :: .bool x.tx.lane :: i64 x.tx.round :: i64 x.tx.turn :: (x.tx.hand.map u8 ++ x.tx.tag.map u8)
structure Act.Wf (x : Act) : Prop where
  kind : I64 x.kind
  round : I64 x.round
  a : I64 x.a
  b : I64 x.b
  now : I64 x.now
  hand : I64 x.hand
  tx : Tx.Wf x.tx
theorem Act.cells_len {x : Act} (h : x.tx.hand.length = 32) (h1 : x.tx.tag.length = 32) : x.cells.length = 79 := by simp [Act.cells, h, h1]
end Go.Lane
namespace Go.Lane
open Go.Sx
open Go.Txs (Tx within)
open Go.Note (Z I64)
end Go.Lane
namespace Go.Lane
open Go.Sx
open Go.Txs (Tx within)
open Go.Note (Z I64)
open Go.Inbox (flat_lenM flat_takeM flat_getM memD)
end Go.Lane
namespace Go.Lane
open Go.Txs (Tx within)
end Go.Lane

/- Own words: whole numbers as floats of 64 bits, and their order. -/
set_option linter.unusedVariables false
set_option linter.unusedSimpArgs false
namespace Go.Sx
open Go.RowKit
open Ieee (Toward Format Datum)
def fl (n : Int) : Nat := FloatKind.f64.nearest n
theorem cut_none (neg : Bool) (n : Nat) : Toward.even.cut neg n 0 = n := by
  simp [Toward.cut, Nat.mod_one]
theorem dbl_sign : Ieee.double.signWeight = 9223372036854775808 := by decide
theorem dbl_bin : Ieee.double.binade = 4503599627370496 := by decide
theorem dbl_inf : Ieee.double.infRung = 9218868437227405312 := by decide
theorem dbl_least : Ieee.double.leastPlace = -1074 := by decide
theorem dbl_frac : Ieee.double.fractionBits = 52 := rfl
/-- The float of a small number. -/
theorem near {m : Nat} (h0 : 0 < m) (h1 : m < 2 ^ 53) : ∃ e r, e ≤ 52 ∧ r < 4503599627370496 ∧ m * 2 ^ (52 - e) = 4503599627370496 + r ∧ Ieee.double.nearest false m 0 = (e + 1023) * 4503599627370496 + r := by
  have h2 := Nat.log2_self_le (n := m) (by omega)
  have h3 := Nat.lt_log2_self (n := m)
  have he : m.log2 ≤ 52 := by
    have h4 : 2 ^ m.log2 < 2 ^ 53 := Nat.lt_of_le_of_lt h2 h1
    have := (Nat.pow_lt_pow_iff_right (a := 2) (by omega)).1 h4
    omega
  have h5 : 2 ^ m.log2 * 2 ^ (52 - m.log2) = 4503599627370496 := by
    rw [← Nat.pow_add, show m.log2 + (52 - m.log2) = 52 by omega]
  have h6 : 2 ^ (m.log2 + 1) * 2 ^ (52 - m.log2) = 9007199254740992 := by
    rw [← Nat.pow_add, show m.log2 + 1 + (52 - m.log2) = 53 by omega]
  have hp : 0 < 2 ^ (52 - m.log2) := Nat.pow_pos (by omega)
  have h7 : 4503599627370496 ≤ m * 2 ^ (52 - m.log2) := by rw [← h5]; exact Nat.mul_le_mul_right _ h2
  have h8 : m * 2 ^ (52 - m.log2) < 9007199254740992 := by rw [← h6]; exact Nat.mul_lt_mul_of_pos_right h3 hp
  have h0' : ¬ m = 0 := by omega
  have hl : max ((0 : Int) + (m.log2 : Int) - (Ieee.double.fractionBits : Int)) Ieee.double.leastPlace = (m.log2 : Int) - 52 := by
    rw [dbl_frac, dbl_least]
    omega
  have e1 : ((0 : Int) - ((m.log2 : Int) - 52)).toNat = 52 - m.log2 := by omega
  have e2 : ((m.log2 : Int) - 52 - 0).toNat = 0 := by omega
  have e3 : ((m.log2 : Int) - 52 - Ieee.double.leastPlace).toNat = m.log2 + 1022 := by rw [dbl_least]; omega
  have key : Ieee.double.nearest false m 0 = min ((m.log2 + 1022) * 4503599627370496 + m * 2 ^ (52 - m.log2)) 9218868437227405312 := by
    unfold Format.nearest
    rw [if_neg h0']
    simp only [hl]
    rw [e1, e2, e3, cut_none, dbl_bin, dbl_inf, Nat.shiftLeft_eq]
    unfold Format.word
    simp only [Bool.false_eq_true, if_false]
  have fin : ∀ (e X : Nat), e ≤ 52 → 4503599627370496 ≤ X → X < 9007199254740992 → X - 4503599627370496 < 4503599627370496 ∧ X = 4503599627370496 + (X - 4503599627370496) ∧ min ((e + 1022) * 4503599627370496 + X) 9218868437227405312 = (e + 1023) * 4503599627370496 + (X - 4503599627370496) := by
    intro e X h1 h2 h3
    refine ⟨by omega, by omega, ?_⟩
    rw [Nat.min_eq_left (by omega)]
    omega
  obtain ⟨f1, f2, f3⟩ := fin _ _ he h7 h8
  exact ⟨m.log2, m * 2 ^ (52 - m.log2) - 4503599627370496, he, f1, f2, key.trans f3⟩
theorem read_at {W e r : Nat} (hW : W = (e + 1023) * 4503599627370496 + r) (he : e ≤ 52) (hr : r < 4503599627370496) : Ieee.double.read W = .number false (4503599627370496 + r) ((e : Int) - 52) := by
  have h1 : W / 9223372036854775808 % 2 = 0 := by omega
  have h2 : W % 9223372036854775808 = W := by omega
  have h3 : W % 4503599627370496 = r := by omega
  have h4 : W / 4503599627370496 = e + 1023 := by omega
  have h5 : (-1074 : Int) + ((e + 1023 - 1 : Nat) : Int) = (e : Int) - 52 := by omega
  have h6 : ¬ W < 4503599627370496 := by omega
  have h7 : W < 9218868437227405312 := by omega
  have h8 : ((0 : Nat) == 1) = false := by decide
  clear hW
  unfold Format.read
  simp only [dbl_sign, dbl_bin, dbl_inf, dbl_least]
  rw [h1, h2, if_neg h6, if_pos h7, h3, h4, h5, h8]
theorem read_near {e r : Nat} (he : e ≤ 52) (hr : r < 4503599627370496) : Ieee.double.read ((e + 1023) * 4503599627370496 + r) = .number false (4503599627370496 + r) ((e : Int) - 52) := read_at rfl he hr
/-- What the float of a small number stands for. -/
theorem read_fl {n : Int} (h0 : 0 ≤ n) (h1 : n ≤ 1099511627776) : ∃ M i, Ieee.double.read (fl n) = .number false M i ∧ (-1074 ≤ i ∧ i ≤ 0) ∧ ∀ b : Int, b ≤ i → M <<< (i - b).toNat = n.toNat * 2 ^ (-b).toNat := by
  have hf : fl n = Ieee.double.nearest false n.toNat 0 := by
    have hd : decide (n < 0) = false := decide_eq_false (by omega)
    have hn : n.natAbs = n.toNat := by omega
    show Ieee.double.write (.number (decide (n < 0)) n.natAbs 0) = _
    rw [hd, hn]
    rfl
  rw [hf]
  rcases Nat.eq_zero_or_pos n.toNat with hz | hp
  · refine ⟨0, -1074, ?_, by omega, fun b hb => by rw [hz]; simp⟩
    rw [hz]
    unfold Format.nearest
    rw [if_pos rfl]
    unfold Format.word Format.read
    simp only [dbl_sign, dbl_bin, dbl_inf, dbl_least, Bool.false_eq_true, if_false]
    rfl
  · obtain ⟨e, r, he, hr, h2, h3⟩ := near hp (by have : n.toNat ≤ 1099511627776 := by omega
                                                 omega)
    refine ⟨4503599627370496 + r, (e : Int) - 52, by rw [h3, read_near he hr], by omega, fun b hb => ?_⟩
    rw [← h2, Nat.shiftLeft_eq, Nat.mul_assoc, ← Nat.pow_add, show 52 - e + ((e : Int) - 52 - b).toNat = (-b).toNat by omega]
theorem order_fl {a b : Int} (ha : 0 ≤ a ∧ a ≤ 1099511627776) (hb : 0 ≤ b ∧ b ≤ 1099511627776) : FloatKind.f64.format.order (fl a) (fl b) = some (compare a b) := by
  obtain ⟨M, i, h1, h2, h3⟩ := read_fl ha.1 ha.2
  obtain ⟨N, j, h4, h5, h6⟩ := read_fl hb.1 hb.2
  show (Ieee.double.read (fl a)).order (Ieee.double.read (fl b)) = _
  rw [h1, h4]
  have e1 := h3 (min i j) (by omega)
  have e2 := h6 (min i j) (by omega)
  have hp : 0 < 2 ^ (-(min i j)).toNat := Nat.pow_pos (by omega)
  generalize 2 ^ (-(min i j)).toNat = k at *
  simp only [Datum.order, Ieee.signed, Bool.false_eq_true, if_false, e1, e2]
  congr 1
  have key : ∀ x y : Nat, compare ((x * k : Nat) : Int) ((y * k : Nat) : Int) = compare (x : Int) (y : Int) := by
    intro x y
    show compareOfLessAndEq _ _ = compareOfLessAndEq _ _
    unfold compareOfLessAndEq
    rcases Nat.lt_trichotomy x y with h | h | h
    · have h' := Nat.mul_lt_mul_of_pos_right h hp
      rw [if_pos (Int.ofNat_lt.2 h'), if_pos (Int.ofNat_lt.2 h)]
    · subst h
      simp
    · have h' := Nat.mul_lt_mul_of_pos_right h hp
      have a1 : ¬ ((x * k : Nat) : Int) < ((y * k : Nat) : Int) := fun e => Nat.lt_asymm h' (Int.ofNat_lt.1 e)
      have a2 : ¬ ((x * k : Nat) : Int) = ((y * k : Nat) : Int) := fun e => Nat.ne_of_gt h' (Int.ofNat_inj.1 e)
      have b1 : ¬ (x : Int) < (y : Int) := fun e => Nat.lt_asymm h (Int.ofNat_lt.1 e)
      have b2 : ¬ (x : Int) = (y : Int) := fun e => Nat.ne_of_gt h (Int.ofNat_inj.1 e)
      rw [if_neg a1, if_neg a2, if_neg b1, if_neg b2]
  rw [key, show ((a.toNat : Nat) : Int) = a by omega, show ((b.toNat : Nat) : Int) = b by omega]
theorem cmp_lt (p q : Int) : (some (compare p q) == some Ordering.lt) = decide (p < q) := by
  show (some (compareOfLessAndEq p q) == some Ordering.lt) = decide (p < q)
  unfold compareOfLessAndEq
  by_cases h : p < q
  · rw [if_pos h, decide_eq_true h]; rfl
  · rw [if_neg h, decide_eq_false h]
    split <;> rfl
theorem cmp_eq (p q : Int) : (some (compare p q) == some Ordering.eq) = decide (p = q) := by
  show (some (compareOfLessAndEq p q) == some Ordering.eq) = decide (p = q)
  unfold compareOfLessAndEq
  by_cases h : p = q
  · rw [if_neg (by omega), if_pos h, decide_eq_true h]; rfl
  · rw [decide_eq_false h]
    split
    · rfl
    · first | rfl | (rw [if_neg h]; rfl)
theorem run_complex (ts : Array TypeId) (ty : TypeId) (p q : Nat) : Builtin.complex_ ts ty #[.float .f64 p, .float .f64 q] = pure (.complex .f64 p q) := rfl
theorem run_real (ts : Array TypeId) (ty : TypeId) (p q : Nat) : Builtin.real_ ts ty #[.complex .f64 p q] = pure (.float .f64 p) := rfl
theorem run_imag (ts : Array TypeId) (ty : TypeId) (p q : Nat) : Builtin.imag_ ts ty #[.complex .f64 p q] = pure (.float .f64 q) := rfl
section
variable {P : Program} {n : Nat} {S : List Nat} {w0 : World} {ss : List (Nat × Value)} {l : List It} {o : Oper}
theorem y_fconv {s t : TypeId} {x : Operand} {q : Int} (ho : o.op = .convert s t x) {d : TypeDesc} (hs : P.underlying s = some d) (ht : P.underlying t = some (.float .f64)) (hx : evO ss x = some (.int .i64 q)) : Yld P n S w0 ss l o (.float .f64 (fl q)) := by
  intro a w F _; simp [execOp, ho, F.ev hx, convert, underlying, program, Sem.run, hs, ht, Conv.intToFloat, fl]
theorem y_complex {x y : Operand} {t u : TypeId} {p q : Nat} (ho : o.op = .call { callee := .builtin .complex, args := #[x, y], argTypes := #[t, u] }) (hx : evO ss x = some (.float .f64 p)) (hy : evO ss y = some (.float .f64 q)) : Yld P n S w0 ss l o (.complex .f64 p q) := by
  intro a w F _; simp [execOp, ho, F.ev hx, F.ev hy, resolve, invoke, builtin, run_complex]
theorem y_real {x : Operand} {t : TypeId} {p q : Nat} (ho : o.op = .call { callee := .builtin .real, args := #[x], argTypes := #[t] }) (hx : evO ss x = some (.complex .f64 p q)) : Yld P n S w0 ss l o (.float .f64 p) := by
  intro a w F _; simp [execOp, ho, F.ev hx, resolve, invoke, builtin, run_real]
theorem y_imag {x : Operand} {t : TypeId} {p q : Nat} (ho : o.op = .call { callee := .builtin .imag, args := #[x], argTypes := #[t] }) (hx : evO ss x = some (.complex .f64 p q)) : Yld P n S w0 ss l o (.float .f64 q) := by
  intro a w F _; simp [execOp, ho, F.ev hx, resolve, invoke, builtin, run_imag]
theorem y_flss {t t' : TypeId} {x y : Operand} {p q : Int} (ho : o.op = .binOp .lss t x y t') (hx : evO ss x = some (.float .f64 (fl p))) (hy : evO ss y = some (.float .f64 (fl q))) (hp : 0 ≤ p ∧ p ≤ 1099511627776) (hq : 0 ≤ q ∧ q ≤ 1099511627776) : Yld P n S w0 ss l o (.bool (decide (p < q))) := by
  intro a w F _
  have e := cmp_lt p q
  simp [execOp, ho, F.ev hx, F.ev hy, eqGuard, binOp, Op.floatCmp, order_fl hp hq, e]
theorem y_feql {t t' : TypeId} {x y : Operand} {p q : Int} (ho : o.op = .binOp .eql t x y t') (hx : evO ss x = some (.float .f64 (fl p))) (hy : evO ss y = some (.float .f64 (fl q))) (hp : 0 ≤ p ∧ p ≤ 1099511627776) (hq : 0 ≤ q ∧ q ≤ 1099511627776) : Yld P n S w0 ss l o (.bool (decide (p = q))) := by
  intro a w F _
  have e := cmp_eq p q
  simp [execOp, ho, F.ev hx, F.ev hy, eqGuard, binOp, Op.floatCmp, order_fl hp hq, e]
variable {w : World} {a : Act}
theorem run_cell_tmp2 {fn : Func} {t ty b z u s : Nat} {E : TypeId} {cs : List Value} {v x : Value} (hr : fn.results = #[.cell t ty, .tmp u, .tmp s]) (H : St n S w0 ss l a w) (hv : find ss t = some (.pointer (some ⟨b, 0, none⟩))) (ht : aggB P ty = some true) (hz : sizeB P ty = some z) (hm : It.blk b E cs ∈ l) (hl : cs.length = z) (hu : find ss u = some v) (hs : find ss s = some x) :
    (results fn a.tmps).run P w = .ok (.tuple #[.agg cs.toArray, v, x]) w := by
  have h1 : a.tmps[t]?.getD undef = .pointer (some ⟨b, 0, none⟩) := by simpa [Array.getD_eq_getD_getElem?] using getD_of H.fr hv
  have h3 : a.tmps[u]?.getD undef = v := by simpa [Array.getD_eq_getD_getElem?] using getD_of H.fr hu
  have h4 : a.tmps[s]?.getD undef = x := by simpa [Array.getD_eq_getD_getElem?] using getD_of H.fr hs
  have h2 : Rd w (some ⟨b, 0, none⟩) cs := by
    have := Rd.blk (blk_at hm H.sep) 0 cs.length
    simpa using this
  subst hl
  simp [results, hr, h1, h3, h4, loadVar, run_isAgg' ht, run_sizeOf' hz, h2.load, asAddr]
theorem retctt {fn : Func} {R : Ending → World → Prop} {t ty b z u s : Nat} {E : TypeId} {cs : List Value} {v x : Value} (hr : fn.results = #[.cell t ty, .tmp u, .tmp s]) (H : St n S w0 ss l a w) (hv : find ss t = some (.pointer (some ⟨b, 0, none⟩))) (ht : aggB P ty = some true) (hz : sizeB P ty = some z) (hm : It.blk b E cs ∈ l) (hl : cs.length = z) (hu : find ss u = some v) (hs : find ss s = some x)
    (h : R (.returned (.tuple #[.agg cs.toArray, v, x])) w) : bodyPost P fn R .ret a w :=
  bodyPost_ret (run_cell_tmp2 hr H hv ht hz hm hl hu hs) H.fr.df h
end
section
variable {P : Program} {rl : List Oper} {Q : Exit → Act → World → Prop} {fuel : Nat} {listed : Array Bool} {a : Act} {w : World} {o o' : Oper}
def fourB (rl : List Oper) (listed : Array Bool) (i j k m : Nat) : Bool := Region.ready .any rl.toArray listed == [i, j, k, m]
theorem hgo4 {T : World → Prop} {o2 o3 : Oper} (i j k q : Nat) (hi : rl[i]? = some o) (hj : rl[j]? = some o') (hk : rl[k]? = some o2) (hq : rl[q]? = some o3) (hB : fourB rl listed i j k q = true) (h : wpList P rl.toArray (HQ P rl Q T fuel (listed.setIfInBounds i true)) [o] a w) (h' : wpList P rl.toArray (HQ P rl Q T fuel (listed.setIfInBounds j true)) [o'] a w)
    (h2 : wpList P rl.toArray (HQ P rl Q T fuel (listed.setIfInBounds k true)) [o2] a w) (h3 : wpList P rl.toArray (HQ P rl Q T fuel (listed.setIfInBounds q true)) [o3] a w) :
    wpAnyH P .any rl.toArray (NoPanic Q) T (fuel + 1) listed a w := by
  have hB' : Region.ready .any rl.toArray listed = [i, j, k, q] := by simpa [fourB] using hB
  refine wpAnyH_all hB' (by simp) fun m hm => ?_
  simp only [List.mem_cons, List.not_mem_nil, or_false] at hm
  rcases hm with rfl | rfl | rfl | rfl
  · exact wpOp_of_list _ hi h
  · exact wpOp_of_list _ hj h'
  · exact wpOp_of_list _ hk h2
  · exact wpOp_of_list _ hq h3
end
end Go.Sx

/- The pool as cells. -/
namespace Go.Pool
open Go.Sx
open Go.Txs (Tx within)
open Go.Note (Z I64)
open Go.Inbox (flat_lenM flat_takeM flat_getM flat_pre memD)
def Wait.cells (w : Wait) : List Value := i64 w.tx.src :: i64 w.tx.nonce :: i64 w.tx.fee :: i64 w.tx.dst :: str w.tx.data :: .bool w.tx.lane :: i64 w.tx.round :: i64 w.tx.turn :: (w.tx.hand.map u8 ++ (w.tx.tag.map u8 ++ (i64 w.index :: i64 w.till :: i64 w.time :: [i64 w.place])))
structure Wait.Wf (w : Wait) : Prop where
  tx : Tx.Wf w.tx
  index : I64 w.index
  till : I64 w.till
  time : I64 w.time
  place : I64 w.place
theorem Wait.cells_is (w : Wait) : w.cells = w.tx.cells ++ [i64 w.index, i64 w.till, i64 w.time, i64 w.place] := by simp [Wait.cells, Tx.cells]
theorem Wait.cells_len {w : Wait} (h : w.tx.hand.length = 32) (h1 : w.tx.tag.length = 32) : w.cells.length = 76 := by simp [Wait.cells, h, h1]
theorem Wait.Wf.len {w : Wait} (h : w.Wf) : w.cells.length = 76 := Wait.cells_len h.tx.hand h.tx.tag
theorem Wait.wf_zero : Wait.Wf Wait.zero := ⟨Txs.Tx.wf_zero, ⟨by decide, by decide⟩, ⟨by decide, by decide⟩, ⟨by decide, by decide⟩, ⟨by decide, by decide⟩⟩
def wc (l : List Wait) : List Value := (l.map Wait.cells).flatten
abbrev Wfs (l : List Wait) : Prop := ∀ x ∈ l, Wait.Wf x
theorem wc_len {l : List Wait} (h : Wfs l) : (wc l).length = l.length * 76 := flat_lenM l fun x hx => (h x hx).len
theorem wc_take {l : List Wait} (h : Wfs l) (i : Nat) (hi : i < l.length) : ((wc l).drop (i * 76)).take 76 = Wait.cells (l.getD i Wait.zero) := flat_takeM _ l i (fun x hx => (h x hx).len) hi
theorem wc_at {l : List Wait} (h : Wfs l) {k c : Nat} (hk : k < l.length) (hc : c < 76) : (wc l)[k * 76 + c]? = (Wait.cells (l.getD k Wait.zero))[c]? := flat_getM (f := Wait.cells) Wait.zero (fun x hx => (h x hx).len) hk hc
theorem wc_pre {l : List Wait} (h : Wfs l) (k : Nat) : wc (l.take k) = (wc l).take (k * 76) := flat_pre l k fun x hx => (h x hx).len
theorem wc_append (l m : List Wait) : wc (l ++ m) = wc l ++ wc m := by simp [wc]
theorem wc_one (b : Wait) : wc [b] = Wait.cells b := by simp [wc]
theorem wc_suf {l : List Wait} (h : Wfs l) (k : Nat) : wc (l.drop k) = (wc l).drop (k * 76) := by
  by_cases hk : k ≤ l.length
  · have h1 := wc_pre h k
    have h2 : wc l = wc (l.take k) ++ wc (l.drop k) := by rw [← wc_append, List.take_append_drop]
    have h3 : (wc (l.take k)).length = k * 76 := by rw [wc_len (fun x hx => h x (List.mem_of_mem_take hx)), List.length_take, Nat.min_eq_left hk]
    rw [h2, List.drop_left' h3]
  · rw [List.drop_eq_nil_of_le (by omega), List.drop_eq_nil_of_le (by rw [wc_len h]; omega)]
    rfl
theorem wc_cell (l : List Wait) : ∀ u ∈ wc l, u.oneCell' = true := by
  intro u hu
  simp only [wc, List.mem_flatten, List.mem_map] at hu
  obtain ⟨cs, ⟨b, _, rfl⟩, hu⟩ := hu
  simp only [Wait.cells, List.mem_cons, List.mem_append, List.mem_map, List.not_mem_nil, or_false] at hu
  rcases hu with rfl | rfl | rfl | rfl | rfl | rfl | rfl | rfl | ⟨x, _, rfl⟩ | ⟨x, _, rfl⟩ | rfl | rfl | rfl | rfl <;> rfl
theorem Wfs.at_ {l : List Wait} (h : Wfs l) {k : Nat} (hk : k < l.length) : Wait.Wf (l.getD k Wait.zero) := h _ (mem_getD hk)
theorem Wfs.take {l : List Wait} (h : Wfs l) (k : Nat) : Wfs (l.take k) := fun x hx => h x (List.mem_of_mem_take hx)
theorem Wfs.drop {l : List Wait} (h : Wfs l) (k : Nat) : Wfs (l.drop k) := fun x hx => h x (List.mem_of_mem_drop hx)
theorem Wfs.erase {l : List Wait} (h : Wfs l) (k : Nat) : Wfs (l.eraseIdx k) := fun x hx => h x ((erase_sub l k).subset hx)
theorem erase_is (l : List Wait) (k : Nat) : l.take k ++ l.drop (k + 1) = l.eraseIdx k := by rw [List.eraseIdx_eq_take_drop_succ]
theorem Wfs.ins {l : List Wait} (h : Wfs l) {w : Wait} (hw : w.Wf) : Wfs (ins l w) := fun x hx => by
  rcases ins_mem.1 hx with rfl | hx
  · exact hw
  · exact h x hx
theorem Wfs.raise {l : List Wait} (h : Wfs l) {o : Wait} (ho : o.Wf) : Wfs (l.map (Pool.raise o)) := fun x hx => by
  obtain ⟨y, hy, rfl⟩ := List.mem_map.1 hx
  unfold Pool.raise
  split
  · exact { h y hy with time := ho.time, place := ho.place }
  · exact h y hy
theorem Wfs.filter {l : List Wait} (h : Wfs l) (p : Wait → Bool) : Wfs (l.filter p) := fun x hx => h x (List.mem_filter.1 hx).1
theorem put_wf {p : Pool} {w : Wait} (h : Wfs p.L) (hw : w.Wf) : Wfs (put p w).1.L ∧ (put p w).2.1.Wf := by
  unfold put
  split
  · exact ⟨h, Wait.wf_zero⟩
  · split
    · exact ⟨h, Wait.wf_zero⟩
    · split
      · exact ⟨h.ins hw, Wait.wf_zero⟩
      · split
        · exact ⟨h, Wait.wf_zero⟩
        · refine ⟨(h.erase _).ins hw, ?_⟩
          show Wait.Wf (p.L.getD _ _)
          by_cases hk : poorest p.L p.L.length < p.L.length
          · exact h.at_ hk
          · rw [List.getD_eq_getElem?_getD, List.getElem?_eq_none (by omega)]; exact Wait.wf_zero
end Go.Pool
namespace Go.Pool
open Go.Sx
open Go.Txs (Tx within)
open Go.Note (Z I64)
theorem at_end {w : Wait} (h : w.Wf) : w.cells[72]? = some (i64 w.index) ∧ w.cells[73]? = some (i64 w.till) ∧ w.cells[74]? = some (i64 w.time) ∧ w.cells[75]? = some (i64 w.place) := by
  have h1 := h.tx.hand
  have h2 := h.tx.tag
  have e : ∀ j, w.cells[72 + j]? = [i64 w.index, i64 w.till, i64 w.time, i64 w.place][j]? := by
    intro j
    rw [Wait.cells_is, List.getElem?_append_right (by rw [Tx.cells_len h1 h2]; omega), Tx.cells_len h1 h2, Nat.add_sub_cancel_left]
  exact ⟨e 0, e 1, e 2, e 3⟩
theorem poorest_y {L : List Wait} {k : Nat} (h : (L.getD k Wait.zero).tx.fee < (L.getD (poorest L k) Wait.zero).tx.fee ∨ ((L.getD k Wait.zero).tx.fee = (L.getD (poorest L k) Wait.zero).tx.fee ∧ (L.getD (poorest L k) Wait.zero).index < (L.getD k Wait.zero).index)) : poorest L (k + 1) = k := by
  show (if _ then _ else _) = _
  rw [if_pos (by omega)]
theorem poorest_n {L : List Wait} (hs : L.Pairwise fun a b => a.index < b.index) {k : Nat} (hk : k < L.length) (h : ¬ ((L.getD k Wait.zero).tx.fee < (L.getD (poorest L k) Wait.zero).tx.fee ∨ ((L.getD k Wait.zero).tx.fee = (L.getD (poorest L k) Wait.zero).tx.fee ∧ (L.getD (poorest L k) Wait.zero).index < (L.getD k Wait.zero).index))) : poorest L (k + 1) = poorest L k := by
  rcases Nat.eq_zero_or_pos k with rfl | h0
  · show (if _ then _ else _) = _
    split <;> rfl
  · have h1 := poorest_lt (L := L) h0
    have h2 := sorted_lt hs h1 hk
    show (if _ then _ else _) = _
    rw [if_neg (by omega)]
theorem poorest_in {L : List Wait} {k : Nat} (hk : k ≤ L.length) (h0 : 0 < L.length) : poorest L k < L.length := by
  rcases Nat.eq_zero_or_pos k with rfl | h1
  · exact h0
  · exact Nat.lt_of_lt_of_le (poorest_lt h1) hk
theorem rdp {Q : World → Prop} {A : Option Addr} {L : List Wait} (hL : Wfs L) (h : ∀ w, Q w → Rd w A (wc L)) (k : Nat) : ∀ w, Q w → Rd w A (wc (L.take k)) := fun w hw => by rw [wc_pre hL]; exact (h w hw).take _
theorem rds {Q : World → Prop} {A : Option Addr} {L : List Wait} (hL : Wfs L) (h : ∀ w, Q w → Rd w A (wc L)) (k c : Nat) (hc : L.length ≤ c) : ∀ w, Q w → Rd w (if c = k then A else A.map (·.add (k * 76))) (wc (L.drop k)) := fun w hw => by
  rw [wc_suf hL]
  exact (h w hw).drop _ _ (fun e => by rw [wc_len hL]; exact Nat.mul_le_mul_right _ (by omega))
theorem cut_erase {L : List Wait} (i : Nat) : wc (L.take i) ++ wc (L.drop ((i : Int) + 1).toNat) = wc (L.eraseIdx i) := by
  rw [show ((i : Int) + 1).toNat = i + 1 by omega, ← wc_append, erase_is]
theorem len_erase {L : List Wait} {i : Nat} (h : i < L.length) : i + (L.length - ((i : Int) + 1).toNat) = (L.eraseIdx i).length := by
  rw [List.length_eraseIdx, if_pos h]
  omega
end Go.Pool
namespace Go.Pool
open Go.Sx
theorem wait_cell (w : Wait) : ∀ u ∈ w.cells, u.oneCell' = true := by
  rw [← wc_one]
  exact wc_cell _
theorem old_yes {L : List Wait} {now : Int} {k : Nat} (hk : k < L.length) (h : (L.getD k Wait.zero).till < now) : (L.take (k + 1)).filter (isOld now) = (L.take k).filter (isOld now) ++ [L.getD k Wait.zero] ∧ (L.take (k + 1)).filter (fun w => !isOld now w) = (L.take k).filter (fun w => !isOld now w) := by
  rw [Oct.take_succ Wait.zero hk, List.filter_append, List.filter_append]
  have h1 : isOld now (L.getD k Wait.zero) = true := decide_eq_true h
  simp only [List.filter_cons, List.filter_nil, h1, if_true, Bool.not_true, Bool.false_eq_true, if_false, List.append_nil, and_self]
theorem old_no {L : List Wait} {now : Int} {k : Nat} (hk : k < L.length) (h : ¬ (L.getD k Wait.zero).till < now) : (L.take (k + 1)).filter (isOld now) = (L.take k).filter (isOld now) ∧ (L.take (k + 1)).filter (fun w => !isOld now w) = (L.take k).filter (fun w => !isOld now w) ++ [L.getD k Wait.zero] := by
  rw [Oct.take_succ Wait.zero hk, List.filter_append, List.filter_append]
  have h1 : isOld now (L.getD k Wait.zero) = false := decide_eq_false h
  simp only [List.filter_cons, List.filter_nil, h1, if_true, Bool.not_false, Bool.false_eq_true, if_false, List.append_nil, and_self]
end Go.Pool
namespace Go.Pool
open Go.Sx
open Go.Txs (Tx within)
theorem nums4 {x : Wait} (h : Note.nums [x.index, x.till, x.time, x.place] = true) : within x.index 1099511627776 ∧ within x.till 1099511627776 ∧ within x.time 1099511627776 ∧ within x.place 1099511627776 := by
  simp only [Note.nums, Note.okNum, List.all_cons, List.all_nil, Bool.and_eq_true, decide_eq_true_eq] at h
  exact ⟨h.1, h.2.1, h.2.2.1, h.2.2.2.1⟩
theorem is_right {x : Wait} (hc : Txs.check x.tx = 0) (h : Note.nums [x.index, x.till, x.time, x.place] = true) : right x := ⟨hc, nums4 h⟩
theorem not_right {x : Wait} (h : Note.nums [x.index, x.till, x.time, x.place] = false) : ¬ right x := fun ⟨_, h1, h2, h3, h4⟩ => by
  unfold within at *
  have : Note.nums [x.index, x.till, x.time, x.place] = true := by
    simp only [Note.nums, Note.okNum, List.all_cons, List.all_nil, Bool.and_eq_true, decide_eq_true_eq]
    exact ⟨h1, h2, h3, h4, trivial⟩
  rw [h] at this
  cases this
theorem put_bad {p : Pool} {w : Wait} (h : ¬ right w) : put p w = (p, Wait.zero, false, 2) := if_pos h
theorem put_twice {p : Pool} {w : Wait} (h : right w) (h1 : twice p.L w) : put p w = (p, Wait.zero, false, 23) := by unfold put; rw [if_neg (fun x => x h), if_pos h1]
theorem put_room {p : Pool} {w : Wait} (h : right w) (h1 : ¬ twice p.L w) (h2 : (p.L.length : Int) < p.size) : put p w = ({ p with L := ins p.L w }, Wait.zero, false, 0) := by unfold put; rw [if_neg (fun x => x h), if_neg h1, if_pos h2]
theorem put_full {p : Pool} {w : Wait} (h : right w) (h1 : ¬ twice p.L w) (h2 : ¬ (p.L.length : Int) < p.size) (h3 : w.tx.fee ≤ (p.L.getD (poorest p.L p.L.length) Wait.zero).tx.fee) : put p w = (p, Wait.zero, false, 25) := by unfold put; rw [if_neg (fun x => x h), if_neg h1, if_neg h2, if_pos h3]
theorem put_gone {p : Pool} {w : Wait} (h : right w) (h1 : ¬ twice p.L w) (h2 : ¬ (p.L.length : Int) < p.size) (h3 : ¬ w.tx.fee ≤ (p.L.getD (poorest p.L p.L.length) Wait.zero).tx.fee) : put p w = ({ p with L := ins (p.L.eraseIdx (poorest p.L p.L.length)) w }, p.L.getD (poorest p.L p.L.length) Wait.zero, true, 0) := by unfold put; rw [if_neg (fun x => x h), if_neg h1, if_neg h2, if_neg h3]
/-- Where it goes, seen the first k. -/
def upTo (L : List Wait) (x : Wait) (k : Nat) : Nat := if pos L x < k then pos L x else L.length
theorem upTo_yes {L : List Wait} {x : Wait} {k : Nat} (hk : k < L.length) (h : x.index < (L.getD k Wait.zero).index) : min (upTo L x k) k = upTo L x (k + 1) := by
  have h1 : ¬ k < pos L x := fun z => pos_below z h
  unfold upTo
  by_cases h2 : pos L x < k
  · rw [if_pos h2, if_pos (by omega)]; omega
  · rw [if_neg h2, if_pos (by omega)]; omega
theorem upTo_no {L : List Wait} {x : Wait} {k : Nat} (hk : k < L.length) (h : ¬ x.index < (L.getD k Wait.zero).index) : upTo L x k = upTo L x (k + 1) := by
  have h1 : pos L x ≠ k := fun z => h (by have := pos_at (L := L) (w := x) (by omega); rw [z] at this; exact this)
  unfold upTo
  by_cases h2 : pos L x < k
  · rw [if_pos h2, if_pos (by omega)]
  · rw [if_neg h2, if_neg (by omega)]
theorem upTo_all {L : List Wait} {x : Wait} {k : Nat} (h : L.length ≤ k) : upTo L x k = pos L x := by
  unfold upTo
  have := pos_le L x
  split <;> omega
theorem not_two {L : List Wait} {x : Wait} {k : Nat} (h : L.length ≤ k) (ha : ∀ j, j < k → ¬ meets (L.getD j Wait.zero) x) : ¬ twice L x := fun ⟨y, hy, hm⟩ => by
  obtain ⟨j, hj, rfl⟩ := List.mem_iff_getElem.1 hy
  have := ha j (by omega)
  rw [getD_el hj] at this
  exact this hm
/-- What is left, and what comes out, once it is known that there is to be room. -/
def left (size : Int) (L : List Wait) : List Wait := if (L.length : Int) = size then L.eraseIdx (poorest L L.length) else L
def outOf (size : Int) (L : List Wait) : Wait := if (L.length : Int) = size then L.getD (poorest L L.length) Wait.zero else Wait.zero
theorem left_yes {size : Int} {L : List Wait} (h : (L.length : Int) = size) : left size L = L.eraseIdx (poorest L L.length) ∧ outOf size L = L.getD (poorest L L.length) Wait.zero := ⟨if_pos h, if_pos h⟩
theorem left_no {size : Int} {L : List Wait} (h : ¬ (L.length : Int) = size) : left size L = L ∧ outOf size L = Wait.zero := ⟨if_neg h, if_neg h⟩
theorem left_len (size : Int) (L : List Wait) : (left size L).length ≤ L.length := by
  unfold left
  split
  · exact List.Sublist.length_le (erase_sub _ _)
  · exact Nat.le_refl _
theorem Wfs.left {L : List Wait} (h : Wfs L) (size : Int) : Wfs (left size L) := by
  unfold Pool.left
  split
  · exact h.erase _
  · exact h
theorem Wfs.out {L : List Wait} (h : Wfs L) (size : Int) : Wait.Wf (outOf size L) := by
  unfold outOf
  split
  · by_cases hk : poorest L L.length < L.length
    · exact h.at_ hk
    · rw [List.getD_eq_getElem?_getD, List.getElem?_eq_none (by omega)]; exact Wait.wf_zero
  · exact Wait.wf_zero
theorem ins_cells (L : List Wait) (x : Wait) : wc (L.take (pos L x)) ++ (Wait.cells x) ++ wc (L.drop (pos L x)) = wc (ins L x) := by
  unfold ins
  rw [wc_append, List.append_assoc]
  simp [wc]
theorem ins_count {L : List Wait} (x : Wait) : pos L x + 1 + (L.length - pos L x) = (ins L x).length := by
  have := pos_le L x
  rw [ins_len]
  omega
end Go.Pool
