/- Part of a proof about given Go functions: contracts of functions, or plain laws. -/
import GoSem.Op.String
import Derived.Test.YtbdkgmkaakoigaaS4
import Derived.Test.YtbdkgmkaakoigaaS3
import Derived.Test.YtbdkgmkaakoigaaS1
import Derived.Test.YtbdkgmkaakoigaaS2
import Derived.Stop.BytesEq
import Derived.Deep.RegionHeld3
import Derived.Scope
/- The auction, in plain Lean. -/
namespace Go.Auction
open Go.Note
def name (b : Bid) : List UInt8 := Sha.sum (writeBid b).1 ++ (writeBid b).1
def has (funds : List Int) (b : Bid) : Int := if b.who < (funds.length : Int) then funds.getD b.who.toNat 0 else 0
def good (round floor : Int) (b : Bid) : Prop := checkBid b = 0 ∧ b.round = round ∧ floor ≤ b.amount
def fresh (out : List Bid) (b : Bid) : Prop := ∀ x ∈ out, x.who ≠ b.who
instance (round floor : Int) (b : Bid) : Decidable (good round floor b) := by unfold good; infer_instance
instance (out : List Bid) (b : Bid) : Decidable (fresh out b) := by unfold fresh; infer_instance
def step (funds : List Int) (round floor : Int) (out : List Bid) (b : Bid) : List Bid := if good round floor b ∧ fresh out b ∧ b.amount ≤ has funds b then out ++ [b] else out
def ahead (a b : Bid) : Bool := decide (b.amount < a.amount) || (decide (a.amount = b.amount) && Op.bytesLess (name a) (name b))
/-- The best of the first so many. -/
def best (l : List Bid) : Nat → Nat
  | 0 => 0
  | i + 1 => if i = 0 then 0 else if ahead (l.getD i Bid.zero) (l.getD (best l i) Bid.zero) = true then i else best l i
/-- The price, after so many, without one. -/
def price (l : List Bid) (k : Nat) (floor : Int) : Nat → Int
  | 0 => floor
  | i + 1 => if i = k then price l k floor i else max (price l k floor i) (l.getD i Bid.zero).amount
structure Win where
  bid : Bid
  price : Int
instance : DecidableEq Win := fun x y => decidable_of_iff (x.bid = y.bid ∧ x.price = y.price) (by cases x; cases y; simp)
def Win.zero : Win := ⟨Bid.zero, 0⟩
/-! ### Orders of texts -/
/-! ### The best -/
/-! ### The price -/
/-! ### Those that count -/
theorem check_ok {b : Bid} (h : checkBid b = 0) : b.ok = true := by
  unfold checkBid at h
  split at h
  · assumption
  · omega
structure Fine (round floor : Int) (all : List Bid) : Prop where
  good : ∀ b ∈ all, Auction.good round floor b
  one : ∀ i j, i < all.length → j < all.length → (all.getD i Bid.zero).who = (all.getD j Bid.zero).who → i = j
/-! ### Who wins -/
/-! ### Books -/
structure Book where
  floor : Int
  L : List Bid
def Book.bids (b : Book) (round : Int) : List Bid := b.L.filter fun x => decide (x.round = round)
def bid (b : Book) (x : Bid) (now : Int) : Book × Int :=
  if checkBid x ≠ 0 then (b, checkBid x)
  else if x.round ≤ now then (b, 26)
  else if x.amount < b.floor then (b, 24)
  else if ¬ fresh (b.bids x.round) x then (b, 23)
  else if 32 ≤ (b.bids x.round).length then (b, 25)
  else ({ b with L := b.L ++ [x] }, 0)
end Go.Auction

/- Own words: what a function hands back out of a cell; lists of words; a table that lies in the first block. -/
set_option linter.unusedVariables false
set_option linter.unusedSimpArgs false
namespace Go.Sx
open Go.RowKit
variable {P : Program} {n : Nat} {S : List Nat} {w0 w : World} {ss : List (Nat × Value)} {l : List It} {o : Oper} {a : Act}

theorem run_cell {fn : Func} {t ty b z : Nat} {E : TypeId} {cs : List Value} (hr : fn.results = #[.cell t ty]) (H : St n S w0 ss l a w) (hv : find ss t = some (.pointer (some ⟨b, 0, none⟩))) (ht : aggB P ty = some true) (hz : sizeB P ty = some z) (hm : It.blk b E cs ∈ l) (hl : cs.length = z) :
    (results fn a.tmps).run P w = .ok (.agg cs.toArray) w := by
  have h1 : a.tmps[t]?.getD undef = .pointer (some ⟨b, 0, none⟩) := by simpa [Array.getD_eq_getD_getElem?] using getD_of H.fr hv
  have h2 : Rd w (some ⟨b, 0, none⟩) cs := by
    have := Rd.blk (blk_at hm H.sep) 0 cs.length
    simpa using this
  subst hl
  simp [results, hr, h1, loadVar, run_isAgg' ht, run_sizeOf' hz, h2.load, asAddr]
theorem retc {fn : Func} {R : Ending → World → Prop} {t ty b z : Nat} {E : TypeId} {cs : List Value} (hr : fn.results = #[.cell t ty]) (H : St n S w0 ss l a w) (hv : find ss t = some (.pointer (some ⟨b, 0, none⟩))) (ht : aggB P ty = some true) (hz : sizeB P ty = some z) (hm : It.blk b E cs ∈ l) (hl : cs.length = z)
    (h : R (.returned (.agg cs.toArray)) w) : bodyPost P fn R .ret a w :=
  bodyPost_ret (run_cell hr H hv ht hz hm hl) H.fr.df h

theorem take_all {cs : List Value} {z : Nat} (h : cs.length = z) : (cs.drop 0).take z = cs := by rw [List.drop_zero, List.take_of_length_le (by omega)]
theorem spl_all {cs vs : List Value} (h : vs.length = cs.length) : spl cs 0 vs = vs := by
  unfold spl
  rw [List.take_zero, List.nil_append, Nat.zero_add, List.drop_eq_nil_of_le (by omega), List.append_nil]
theorem one_u8 (L : List UInt8) : (L.map u8).all (·.oneCell') = true := by simp [Value.oneCell']
/-- The table in block g. -/
def Glob (g : Nat) (T : List (BitVec 32)) (w : World) : Prop := ∀ k, k < T.length → w.cell? ⟨g, k, none⟩ = some (u32 (T.getD k 0))
theorem Glob.frm {g : Nat} {T : List (BitVec 32)} {w0 w : World} {S : List Nat} (h : Glob g T w0) (F : Frm S w0 w) (hS : g ∉ S) : Glob g T w := fun k hk => by
  have h1 := h k hk
  rw [← h1]
  exact World.cell?_of_block (F.block _ (World.block_lt_of_cell? w0 _ h1) hS)
variable {ops : Array Oper} {Q : Exit → Act → World → Prop} {rest : List Oper}
end Go.Sx

/- Own words: what a function hands back out of a cell and a slot. -/
set_option linter.unusedVariables false
set_option linter.unusedSimpArgs false
namespace Go.Sx
open Go.RowKit
variable {P : Program} {n : Nat} {S : List Nat} {w0 w : World} {ss : List (Nat × Value)} {l : List It} {o : Oper} {a : Act}
theorem run_cell_tmp {fn : Func} {t ty b z u : Nat} {E : TypeId} {cs : List Value} {v : Value} (hr : fn.results = #[.cell t ty, .tmp u]) (H : St n S w0 ss l a w) (hv : find ss t = some (.pointer (some ⟨b, 0, none⟩))) (ht : aggB P ty = some true) (hz : sizeB P ty = some z) (hm : It.blk b E cs ∈ l) (hl : cs.length = z) (hu : find ss u = some v) :
    (results fn a.tmps).run P w = .ok (.tuple #[.agg cs.toArray, v]) w := by
  have h1 : a.tmps[t]?.getD undef = .pointer (some ⟨b, 0, none⟩) := by simpa [Array.getD_eq_getD_getElem?] using getD_of H.fr hv
  have h3 : a.tmps[u]?.getD undef = v := by simpa [Array.getD_eq_getD_getElem?] using getD_of H.fr hu
  have h2 : Rd w (some ⟨b, 0, none⟩) cs := by
    have := Rd.blk (blk_at hm H.sep) 0 cs.length
    simpa using this
  subst hl
  simp [results, hr, h1, h3, loadVar, run_isAgg' ht, run_sizeOf' hz, h2.load, asAddr]
theorem retct {fn : Func} {R : Ending → World → Prop} {t ty b z u : Nat} {E : TypeId} {cs : List Value} {v : Value} (hr : fn.results = #[.cell t ty, .tmp u]) (H : St n S w0 ss l a w) (hv : find ss t = some (.pointer (some ⟨b, 0, none⟩))) (ht : aggB P ty = some true) (hz : sizeB P ty = some z) (hm : It.blk b E cs ∈ l) (hl : cs.length = z) (hu : find ss u = some v)
    (h : R (.returned (.tuple #[.agg cs.toArray, v])) w) : bodyPost P fn R .ret a w :=
  bodyPost_ret (run_cell_tmp hr H hv ht hz hm hl hu) H.fr.df h
end Go.Sx

/- Own words: a region that draws, with calls among reads: the reads taken as they come, under what stays. -/
set_option linter.unusedVariables false
set_option linter.unusedSimpArgs false
namespace Go.Sx
open Go.RowKit

variable {P : Program} {n : Nat} {S : List Nat} {w0 : World} {ss : List (Nat × Value)} {l ls : List It}
variable {rl : List Oper} {Q : Exit → Act → World → Prop} {o : Oper} {a : Act} {w : World} {fuel : Nat} {listed : Array Bool}

def HQ (P : Program) (rl : List Oper) (Q : Exit → Act → World → Prop) (T : World → Prop) (fuel : Nat) (listed : Array Bool) : Exit → Act → World → Prop :=
  fun e a w => e = .normal ∧ T w ∧ wpAnyH P .any rl.toArray (NoPanic Q) T fuel listed a w
theorem hreg {id : Nat} (ls : List It) (hs : ∀ w, Sep S w0 w l → Sep S w0 w ls) (hm : P.follows .mixedOrders = true) (H : St n S w0 ss l a w)
    (h : ∀ w', St n S w0 ss l a w' → wpAnyH P .any rl.toArray (NoPanic Q) (fun w => Sep S w0 w ls) rl.length (Array.replicate rl.length false) a w') : (Code.region id rl.toArray true).wp P Q a w :=
  wp_region_noPanic (wp_region_held hm (by
    have h1 := h _ ⟨H.fr, H.sep.drewN 1⟩
    have e : rl.toArray.size = rl.length := by simp
    rw [e]
    exact h1))
def takeB (rl : List Oper) (listed : Array Bool) (i : Nat) : Bool := Region.noSelect rl.toArray && Region.free .any rl.toArray listed i && (Region.ready .any rl.toArray listed).contains i
theorem htake (i : Nat) {d : Nat} {v : Value} (hi : rl[i]? = some o) (hB : takeB rl listed i = true) (hy : Yld P n S w0 ss ls o v) (hw : wantB rl.toArray ss o = some true) (hd : o.dst = some d) (hn : Nat.ble (d + 1) n = true) (hs : ∀ w, Sep S w0 w l → Sep S w0 w ls) (H : St n S w0 ss l a w)
    (K : ∀ a', St n S w0 ((d, v) :: ss) l a' w → wpAnyH P .any rl.toArray (NoPanic Q) (fun w => Sep S w0 w ls) fuel (listed.setIfInBounds i true) a' w) : wpAnyH P .any rl.toArray (NoPanic Q) (fun w => Sep S w0 w ls) (fuel + 1) listed a w := by
  simp only [takeB, Bool.and_eq_true] at hB
  refine wpAnyH_take (v := v) (by simpa using hi) hB.1.1 hB.1.2 hB.2 (fun c a w h => (h : False).elim) (.inl ⟨wanted_of H.fr hw, fun w' hs' => hy a w' H.fr hs'⟩) (hs _ H.sep) ?_
  rw [hd]
  exact K _ ⟨H.fr.put (Nat.lt_of_succ_le (Nat.le_of_ble_eq_true hn)) v, H.sep⟩
def onlyB (rl : List Oper) (listed : Array Bool) (i : Nat) : Bool := Region.ready .any rl.toArray listed == [i]
theorem hgo {T : World → Prop} (i : Nat) (hi : rl[i]? = some o) (hB : onlyB rl listed i = true) (h : wpList P rl.toArray (HQ P rl Q T fuel (listed.setIfInBounds i true)) [o] a w) : wpAnyH P .any rl.toArray (NoPanic Q) T (fuel + 1) listed a w := by
  have hB' : Region.ready .any rl.toArray listed = [i] := by simpa [onlyB] using hB
  refine wpAnyH_all hB' (by simp) fun j hj => ?_
  rw [List.mem_singleton.1 hj]
  unfold wpOp
  have hi' : rl.toArray[i]? = some o := by simpa using hi
  rw [hi']
  unfold wpList at h
  have hlo : ¬ LetsOut (HQ P rl Q T fuel (listed.setIfInBounds i true)) := by rintro ⟨a, w, h, _⟩; cases h
  show if _ then _ else _
  split
  · rename_i hw
    rw [if_pos hw] at h
    rcases h with h | ⟨_, h⟩
    · left
      unfold Oper.wp at h ⊢
      generalize (execOp a.eval o).run P w = r at h
      cases r with
      | ok nx w' =>
        cases nx <;> simp only [Oper.upon] at h ⊢
        case value v => exact h.2
        case skip => exact h.2
        case defer d => exact h.2
        case enter f args =>
          refine h.mono fun e w'' he => ?_
          cases e with
          | returned v => exact he.2
          | panicked c => cases he.1
          | outgrown => exact absurd he hlo
        case row r args => exact h.mono fun v w'' he => he.2
      | halt x w' =>
        cases x <;> simp only [Oper.upon] at h ⊢
        case panic v => cases h.1
    · exact absurd h hlo
  · rename_i hw
    rw [if_neg hw] at h
    exact h.2
theorem hfin {T : World → Prop} (hT : T w) (h : wpAnyH P .any rl.toArray (NoPanic Q) T fuel listed a w) : wpList P rl.toArray (HQ P rl Q T fuel listed) [] a w := ⟨rfl, hT, h⟩
def doneB (rl : List Oper) (listed : Array Bool) : Bool := (Region.ready .any rl.toArray listed).isEmpty
theorem hdone {T : World → Prop} (hB : doneB rl listed = true) (h : Q .normal a w) : wpAnyH P .any rl.toArray (NoPanic Q) T fuel listed a w :=
  wpAnyH_done (by simpa [doneB] using hB) (NoPanic.normal h) fuel
/-- Block b has n cells, of which the first are cs. -/
def It.pre (b : Nat) (E : TypeId) (n : Nat) (cs : List Value) : It where
  fp := [b]
  P := fun w => ∃ r, w.heap[b]? = some (.cells (cs ++ r).toArray E (0, 0)) ∧ (cs ++ r).length = n
  st := fun w w' h hp => by
    obtain ⟨r, h1, h2⟩ := hp
    exact ⟨r, (h b (by simp)).trans h1, h2⟩
  lt := fun w hp c hc => by
    obtain ⟨r, h1, h2⟩ := hp
    rw [List.mem_singleton.1 hc]
    exact (Array.getElem?_eq_some_iff.1 h1).1
end Go.Sx

/- Own words: two calls or stores that may come up in either order. -/
set_option linter.unusedVariables false
set_option linter.unusedSimpArgs false
namespace Go.Sx
open Go.RowKit
variable {P : Program} {n : Nat} {S : List Nat} {w0 : World} {ss : List (Nat × Value)} {l ls : List It}
variable {rl : List Oper} {Q : Exit → Act → World → Prop} {o o' : Oper} {a : Act} {w : World} {fuel : Nat} {listed : Array Bool}
theorem wpOp_of_list {T : World → Prop} (i : Nat) (hi : rl[i]? = some o) (h : wpList P rl.toArray (HQ P rl Q T fuel (listed.setIfInBounds i true)) [o] a w) :
    wpOp P rl.toArray (NoPanic Q) i (fun a' w' => T w' ∧ wpAnyH P .any rl.toArray (NoPanic Q) T fuel (listed.setIfInBounds i true) a' w') a w := by
  unfold wpOp
  have hi' : rl.toArray[i]? = some o := by simpa using hi
  rw [hi']
  unfold wpList at h
  have hlo : ¬ LetsOut (HQ P rl Q T fuel (listed.setIfInBounds i true)) := by rintro ⟨a, w, h, _⟩; cases h
  show if _ then _ else _
  split
  · rename_i hw
    rw [if_pos hw] at h
    rcases h with h | ⟨_, h⟩
    · left
      unfold Oper.wp at h ⊢
      generalize (execOp a.eval o).run P w = r at h
      cases r with
      | ok nx w' =>
        cases nx <;> simp only [Oper.upon] at h ⊢
        case value v => exact h.2
        case skip => exact h.2
        case defer d => exact h.2
        case enter f args =>
          refine h.mono fun e w'' he => ?_
          cases e with
          | returned v => exact he.2
          | panicked c => cases he.1
          | outgrown => exact absurd he hlo
        case row r args => exact h.mono fun v w'' he => he.2
      | halt x w' =>
        cases x <;> simp only [Oper.upon] at h ⊢
        case panic v => cases h.1
    · exact absurd h hlo
  · rename_i hw
    rw [if_neg hw] at h
    exact h.2
def bothB (rl : List Oper) (listed : Array Bool) (i j : Nat) : Bool := Region.ready .any rl.toArray listed == [i, j]
theorem hgo2 {T : World → Prop} (i j : Nat) (hi : rl[i]? = some o) (hj : rl[j]? = some o') (hB : bothB rl listed i j = true) (h : wpList P rl.toArray (HQ P rl Q T fuel (listed.setIfInBounds i true)) [o] a w) (h' : wpList P rl.toArray (HQ P rl Q T fuel (listed.setIfInBounds j true)) [o'] a w) :
    wpAnyH P .any rl.toArray (NoPanic Q) T (fuel + 1) listed a w := by
  have hB' : Region.ready .any rl.toArray listed = [i, j] := by simpa [bothB] using hB
  refine wpAnyH_all hB' (by simp) fun k hk => ?_
  simp only [List.mem_cons, List.not_mem_nil, or_false] at hk
  rcases hk with rfl | rfl
  · exact wpOp_of_list _ hi h
  · exact wpOp_of_list _ hj h'
def threeB (rl : List Oper) (listed : Array Bool) (i j k : Nat) : Bool := Region.ready .any rl.toArray listed == [i, j, k]
theorem hgo3 {T : World → Prop} {o'' : Oper} (i j k : Nat) (hi : rl[i]? = some o) (hj : rl[j]? = some o') (hk : rl[k]? = some o'') (hB : threeB rl listed i j k = true) (h : wpList P rl.toArray (HQ P rl Q T fuel (listed.setIfInBounds i true)) [o] a w) (h' : wpList P rl.toArray (HQ P rl Q T fuel (listed.setIfInBounds j true)) [o'] a w)
    (h'' : wpList P rl.toArray (HQ P rl Q T fuel (listed.setIfInBounds k true)) [o''] a w) :
    wpAnyH P .any rl.toArray (NoPanic Q) T (fuel + 1) listed a w := by
  have hB' : Region.ready .any rl.toArray listed = [i, j, k] := by simpa [threeB] using hB
  refine wpAnyH_all hB' (by simp) fun m hm => ?_
  simp only [List.mem_cons, List.not_mem_nil, or_false] at hm
  rcases hm with rfl | rfl | rfl
  · exact wpOp_of_list _ hi h
  · exact wpOp_of_list _ hj h'
  · exact wpOp_of_list _ hk h''
end Go.Sx

/- Own words: lists of hashes. -/
set_option linter.unusedVariables false
set_option linter.unusedSimpArgs false
namespace Go.Sx
open Go.RowKit
variable {P : Program} {n : Nat} {S : List Nat} {w0 w : World} {ss : List (Nat × Value)} {l : List It} {o : Oper} {a : Act}
theorem lay_agg {z : Nat} {base vs : List Value} {v : Value} (hv : v.cells.toList = vs) (hz : vs.length = z) (hb : base.length = z) : lay (fun i => some (i * z, z)) base [(0, v)] = some vs := by
  have e : spl base 0 vs = vs := spl_all (by rw [hz, hb])
  simp only [lay, hv, hz, hb, Nat.zero_mul, Nat.zero_add, Nat.lt_irrefl, ne_eq, not_true_eq_false, or_self, if_false, e]
/-- The cells of a list of hashes. -/
def hc (p : List (List UInt8)) : List Value := (p.map fun h => h.map u8).flatten
def H32 (p : List (List UInt8)) : Prop := ∀ h ∈ p, h.length = 32
theorem H32.getD {p : List (List UInt8)} (h : H32 p) {i : Nat} (hi : i < p.length) : (p.getD i []).length = 32 := h _ (by rw [List.getD_eq_getElem?_getD, List.getElem?_eq_getElem hi]; exact List.getElem_mem _)
theorem H32.take {p : List (List UInt8)} (h : H32 p) (k : Nat) : H32 (p.take k) := fun x hx => h x (List.mem_of_mem_take hx)
theorem H32.append {p q : List (List UInt8)} (h : H32 p) (h' : H32 q) : H32 (p ++ q) := fun x hx => by rcases List.mem_append.1 hx with hx | hx; exact h x hx; exact h' x hx
theorem H32.one {h : List UInt8} (e : h.length = 32) : H32 [h] := fun x hx => by rw [List.mem_singleton.1 hx]; exact e
section
open Go.WideShapes
variable {H : Type} {enc : TypeId × Value → H} {W : World} {sp : Nat → Bool} {held : Bool} {t e u : TypeId} {cs : List Value}
/-- A list of hashes among the arguments. -/
theorem Tr.hashes (h : Tr enc P W sp held t cs) (ht : P.underlying t = some (.slice e)) (he : P.underlying e = some (.array 32 u)) (hu : P.underlying u = some (.int .u8)) (hn : P.cellsOf e = 32) (h1 : P.cellsOf u = 1) :
    ∃ A p c, cs = [.slice A p.length c] ∧ p.length ≤ c ∧ p.length ≤ 9223372036854775807 ∧ H32 p ∧ Rd W A (hc p) := by
  obtain ⟨a, m, c, hcs, hmc, hm, rows, hr, hR, hrow⟩ := h.sliceC ht (by rw [hn]; omega)
  obtain ⟨p, hp, h32⟩ := rows_map (f := fun x : List UInt8 => x.map Sx.u8) (p := fun x => x.length = 32) (rows := rows) (fun r hr => (hrow r hr).2.bytes he hu hn h1)
  subst hp
  have hl : p.length = m := by rw [← hr, List.length_map]
  subst hl
  exact ⟨a, p, c, hcs, hmc, hm, h32, hR⟩
end
end Go.Sx

/- Own words: cells of structs told by their shape: single cells, and arrays of bytes. -/
set_option linter.unusedVariables false
set_option linter.unusedSimpArgs false
namespace Go.Sx
open Go.RowKit
section shape
variable {a b v : Value} {R R' C cs ds vs B : List Value} {t p q : List UInt8} {n o off z k : Nat}
/-! ### Lengths, single cells -/
theorem len_n : ([] : List Value).length = 0 := rfl
theorem len_c (h : R.length = n) : (a :: R).length = n + 1 := by rw [List.length_cons, h]
theorem len_b (ht : t.length = k) (h : R.length = n) : (t.map u8 ++ R).length = k + n := by rw [List.length_append, List.length_map, ht, h]
theorem len_e (ht : t.length = k) : (t.map u8).length = k := by rw [List.length_map, ht]
theorem one_n : ([] : List Value).all (·.oneCell') = true := rfl
theorem one_c (ha : a.oneCell' = true) (h : R.all (·.oneCell') = true) : (a :: R).all (·.oneCell') = true := by rw [List.all_cons, ha, h]; rfl
theorem one_b (h : R.all (·.oneCell') = true) : (t.map u8 ++ R).all (·.oneCell') = true := by rw [List.all_append, h, one_u8]; rfl
/-! ### A part laid over cells -/
theorem spl_c (h : spl R o vs = R') : spl (a :: R) (o + 1) vs = a :: R' := by
  subst h
  unfold spl
  rw [show o + 1 + vs.length = (o + vs.length) + 1 by omega]
  rfl
theorem spl_b (ht : t.length = k) (ho : k + o = off) (h : spl R o vs = R') : spl (t.map u8 ++ R) off vs = t.map u8 ++ R' := by
  subst h ho
  unfold spl
  rw [List.take_append, List.take_of_length_le (by rw [List.length_map]; omega), List.drop_append, List.drop_eq_nil_of_le (by rw [List.length_map]; omega), List.length_map, ht]
  simp only [List.nil_append, List.append_assoc]
  rw [show k + o - k = o by omega, show k + o + vs.length - k = o + vs.length by omega]
theorem spl_0 : spl (a :: R) 0 [v] = v :: R := rfl
theorem spl_a (hB : cs.length = z) (hv : vs.length = z) : spl cs 0 vs = vs := spl_all (by rw [hB, hv])
theorem spl_m (hv : vs.length = z) (hd : cs.drop z = C) (ha : vs ++ C = ds) : spl cs 0 vs = ds := by
  unfold spl
  rw [List.take_zero, List.nil_append, Nat.zero_add, hv, hd, ha]
theorem dr_c (h : R.drop o = C) : (a :: R).drop (o + 1) = C := h
theorem dr_0 : cs.drop 0 = cs := rfl
theorem dr_b (ht : t.length = k) (ho : k + o = off) (h : R.drop o = C) : (t.map u8 ++ R).drop off = C := by
  subst h ho
  rw [List.drop_append, List.drop_eq_nil_of_le (by rw [List.length_map]; omega), List.length_map, ht, List.nil_append, Nat.add_sub_cancel_left]
theorem app_c (h : R ++ C = R') : (a :: R) ++ C = a :: R' := by rw [List.cons_append, h]
theorem app_b (h : R ++ C = R') : (t.map u8 ++ R) ++ C = t.map u8 ++ R' := by rw [List.append_assoc, h]
theorem app_e : t.map u8 ++ C = t.map u8 ++ C := rfl
/-! ### One cell written -/
theorem set_c (h : R.set o v = R') : (a :: R).set (o + 1) v = a :: R' := by rw [List.set_cons_succ, h]
theorem set_0 : (a :: R).set 0 v = v :: R := rfl
/-! ### One cell read -/
theorem ix_c (h : R[o]? = some v) : (a :: R)[o + 1]? = some v := by rw [List.getElem?_cons_succ, h]
theorem ix_0 : (a :: R)[0]? = some a := rfl
theorem ix_b (ht : t.length = k) (ho : k + o = off) (h : R[o]? = some v) : (t.map u8 ++ R)[off]? = some v := by
  subst ho
  rw [List.getElem?_append_right (by rw [List.length_map]; omega), List.length_map, ht, Nat.add_sub_cancel_left, h]
/-! ### Some cells read -/
theorem ld_c (h : (R.drop o).take z = ds) : ((a :: R).drop (o + 1)).take z = ds := h
theorem ld_b (ht : t.length = k) (ho : k + o = off) (h : (R.drop o).take z = ds) : ((t.map u8 ++ R).drop off).take z = ds := by rw [dr_b ht ho rfl, h]
theorem ld_h (ht : t.length = z) : ((t.map u8 ++ R).drop 0).take z = t.map u8 := by rw [List.drop_zero, List.take_left' (by rw [List.length_map, ht])]
theorem ld_a (h : cs.length = z) : (cs.drop 0).take z = cs := take_all h
theorem ld_s (h : (R.drop 0).take z = ds) : ((a :: R).drop 0).take (z + 1) = a :: ds := by rw [← h]; rfl
theorem ld_t (ht : t.length = k) (hz : k + n = z) (h : (R.drop 0).take n = ds) : ((t.map u8 ++ R).drop 0).take z = t.map u8 ++ ds := by
  subst h hz
  rw [List.drop_zero, List.drop_zero, List.take_append, List.take_of_length_le (by rw [List.length_map]; omega), List.length_map, ht, Nat.add_sub_cancel_left]
theorem agg_cells (l : List Value) : (Value.agg l.toArray).cells.toList = l := rfl
/-! ### A literal of a struct -/
theorem lay_n {place : Nat → Option (Nat × Nat)} : lay place cs [] = some cs := rfl
theorem lay_f {place : Nat → Option (Nat × Nat)} {i : Nat} {cv cs1 : List Value} {rest : List (Nat × Value)} (hp : place i = some (off, z)) (hv : v.cells.toList = cv) (hl : cv.length = z) (hn : cs.length = n) (hb : off + z ≤ n) (hs : spl cs off cv = cs1) (hr : lay place cs1 rest = some ds) : lay place cs ((i, v) :: rest) = some ds := by
  simp only [lay, hp, hv, hl, hn]
  rw [if_neg (by omega), hs, hr]
theorem lay_1 {place : Nat → Option (Nat × Nat)} {i : Nat} {cs1 : List Value} {rest : List (Nat × Value)} (hp : place i = some (off, 1)) (hn : cs.length = n) (hb : off + 1 ≤ n) (hs : spl cs off [v] = cs1) (hr : lay place cs1 rest = some ds) (hv : v.cells.toList = [v]) : lay place cs ((i, v) :: rest) = some ds :=
  lay_f hp hv rfl hn hb hs hr
end shape
section ops
variable {P : Program} {n : Nat} {S : List Nat} {w0 : World} {ss : List (Nat × Value)} {l : List It} {o : Oper}
variable {ops : Array Oper} {Q : Exit → Act → World → Prop} {rest : List Oper} {a : Act} {w : World}
theorem st_storeN {t E : TypeId} {x y : Operand} {b off z : Nat} {cs vs cs' : List Value} {v : Value} {l' : List It} (ho : o.op = .store t x y) (hz : sizeB P t = some z) (hx : evO ss x = some (.pointer (some ⟨b, off, none⟩))) (hy : evO ss y = some v) (hv : v.cells.toList = vs) (hu : Upd l (It.blk b E cs) (It.blk b E cs') l') (h1 : vs.all (·.oneCell') = true) (hl : vs.length = z)
    {m : Nat} (hm : cs.length = m) (he : spl cs off vs = cs') (hf : off + z ≤ m) (hw : wantB ops ss o = some true) (hd : o.dst = none) (H : St n S w0 ss l a w)
    (K : ∀ w', St n S w0 ss l' a w' → wpList P ops Q rest a w') : wpList P ops Q (o :: rest) a w := by
  subst he
  exact st_store ho hz hx hy hv h1 hl hu (by omega) hw hd H K
theorem st_store1N {t E : TypeId} {x y : Operand} {b off : Nat} {cs cs' : List Value} {v : Value} {l' : List It} (ho : o.op = .store t x y) (hz : sizeB P t = some 1) (hx : evO ss x = some (.pointer (some ⟨b, off, none⟩))) (hy : evO ss y = some v) (h1 : v.oneCell' = true) (hu : Upd l (It.blk b E cs) (It.blk b E cs') l')
    {m : Nat} (hm : cs.length = m) (he : cs.set off v = cs') (hf : off < m) (hw : wantB ops ss o = some true) (hd : o.dst = none) (H : St n S w0 ss l a w)
    (K : ∀ w', St n S w0 ss l' a w' → wpList P ops Q rest a w') : wpList P ops Q (o :: rest) a w := by
  subst he
  exact st_store1 ho hz hx hy h1 hu (by omega) hw hd H K
end ops
/-! ### Structs side by side -/
def PartR (P : Program) (t : TypeId) (cs : List Value) (off : Nat) (v : Value) : Prop := ∀ w, (Go.part t cs.toArray off).run P w = .ok v w
def EqR (P : Program) (d : Nat) (t : TypeId) (x y : Value) (r : Bool) : Prop := ∀ w, (Op.equalIn d t x y).run P w = .ok r w
def EqFs (P : Program) (d : Nat) (xs ys : List Value) (fs : List Field) (r : Bool) : Prop := ∀ w, (Op.eqFields d xs.toArray ys.toArray fs).run P w = .ok r w
section eqs
variable {P : Program} {t e : TypeId} {cs ds xs ys : List Value} {off z d : Nat} {v x y : Value} {r r' : Bool} {f : Field} {fs : List Field}
theorem pa_a (ht : aggB P t = some true) (hz : sizeB P t = some z) (hl : cs.length = d) (hb : off + z ≤ d) (hv : (cs.drop off).take z = ds) : PartR P t cs off (.agg ds.toArray) := by
  intro w
  subst hv hl
  simp [Go.part, run_isAgg' ht, run_sizeOf' hz, hb]
theorem pa_1 (ht : aggB P t = some false) (hv : cs[off]? = some v) : PartR P t cs off v := by
  intro w
  simp [Go.part, run_isAgg' ht, hv]
theorem eqr_int {k k' : IntKind} {a b : Int} (h : P.underlying t = some (.int k')) : EqR P (d + 1) t (.int k a) (.int k b) (decide (a = b)) := fun w => by
  rw [run_equalIn_int w d t k k' a b h]
  rfl
theorem eqr_bool {a b : Bool} (h : P.underlying t = some .bool) : EqR P (d + 1) t (.bool a) (.bool b) (decide (a = b)) := fun w => by
  rw [run_equalIn_bool' w d t a b h]
  cases a <;> cases b <;> rfl
theorem eqr_str {p q : List UInt8} (h : P.underlying t = some .string) : EqR P (d + 1) t (str p) (str q) (decide (p = q)) := fun w => by
  rw [run_equalIn_string w d t _ _ h, ← lbeq]
  simp [ByteArray.toList_eq]
theorem eqr_bytes {p q : List UInt8} {m : Nat} (ht : P.underlying t = some (.array m e)) (he : P.underlying e = some (.int .u8)) (hz : sizeB P e = some 1) (hp : p.length = m) (hq : q.length = m) : EqR P (d + 2) t (.agg (p.map u8).toArray) (.agg (q.map u8).toArray) (decide (p = q)) := fun w => by
  have h := run_equalIn_bytes w d t e m ht he (fun w => run_sizeOf' hz) p q hp hq
  rw [← lbeq]
  exact h
theorem eqf_n : EqFs P d xs ys [] true := fun w => rfl
theorem eqf_c (hn : (f.name == "_") = false) (hx : PartR P f.type xs f.offset x) (hy : PartR P f.type ys f.offset y) (he : EqR P d f.type x y r) (hr : EqFs P d xs ys fs r') : EqFs P d xs ys (f :: fs) (r && r') := fun w => by
  have h1 : f.name ≠ "_" := by simpa using hn
  simp only [Op.eqFields, h1, ne_eq, not_false_eq_true, if_true, Sem.run_bind, hx w, hy w, he w, Result.andThen_ok]
  cases r
  · simp
  · simpa using hr w
theorem eqr_struct {fs : Array Field} (ht : P.underlying t = some (.struct fs)) (hp : P.stoodInHeld t = false) (h : EqFs P d xs ys fs.toList r) : EqR P (d + 1) t (.agg xs.toArray) (.agg ys.toArray) r := fun w => by
  have e : P.fieldsOf t = fs := by unfold Program.fieldsOf; rw [ht]
  rw [run_equalIn_struct w d t _ _ (by rw [e, ht]) hp, e]
  exact h w
variable {n : Nat} {S : List Nat} {w0 : World} {ss : List (Nat × Value)} {l : List It} {o : Oper}
theorem y_teql {t' : TypeId} {a b : Operand} (ho : o.op = .binOp .eql t a b t') (hm : P.eqGuardType P.depth t = false) (hx : evO ss a = some (.agg xs.toArray)) (hy : evO ss b = some (.agg ys.toArray)) (h : EqR P 10000 t (.agg xs.toArray) (.agg ys.toArray) r) : Yld P n S w0 ss l o (.bool r) := by
  intro a' w F _
  have hg := fun op (x y : Operand) xs ys => run_eqGuard_agg (P := P) (w := w) op t x y xs ys hm
  simp [execOp, ho, F.ev hx, F.ev hy, hg, run_eql_struct, h w]
theorem y_tneq {t' : TypeId} {a b : Operand} (ho : o.op = .binOp .neq t a b t') (hm : P.eqGuardType P.depth t = false) (hx : evO ss a = some (.agg xs.toArray)) (hy : evO ss b = some (.agg ys.toArray)) (h : EqR P 10000 t (.agg xs.toArray) (.agg ys.toArray) r) : Yld P n S w0 ss l o (.bool (!r)) := by
  intro a' w F _
  have hg := fun op (x y : Operand) xs ys => run_eqGuard_agg (P := P) (w := w) op t x y xs ys hm
  simp [execOp, ho, F.ev hx, F.ev hy, hg, run_neq_struct, h w]
end eqs
section calls
variable {P : Program} {n : Nat} {S : List Nat} {w0 : World} {ss : List (Nat × Value)} {l : List It} {o : Oper}
variable {ops : Array Oper} {Q : Exit → Act → World → Prop} {rest : List Oper} {a : Act} {w : World}
theorem Row.cap {e : TypeId} {size : Nat} {A : Option Addr} {n c : Nat} {xs : List Value} {w : World} (h : Row e size (.slice A n c) n xs w) : n ≤ c := by
  rcases h.2 with ⟨h1, h2⟩ | ⟨g, cap, cur, fz, hv, hg, h1, h2⟩
  · omega
  · injection hv with e1 e2 e3
    omega
theorem row_cap {e size : Nat} {A : Option Addr} {n c : Nat} {xs : List Value} (hs : Sep S w0 w l) (hm : It.row e size (.slice A n c) n xs ∈ l) : n ≤ c := Row.cap (hs.all _ hm)
end calls
section scope
variable {Q : Exit → Act → World → Prop} {a : Act} {w : World}
variable {P : Program} {n : Nat} {S : List Nat} {w0 : World} {ss : List (Nat × Value)} {l : List It} {o : Oper}
end scope
end Go.Sx

/- Own words: how arguments read, with what they weigh. -/
set_option linter.unusedVariables false
set_option linter.unusedSimpArgs false
namespace Go.Sx
open Go.RowKit Go.WideShapes Go.ChangeAt Go.ChangeShapes

section
variable {H : Type} (enc : TypeId × Value → H) (P : Program) (W : World) (sp : Nat → Bool) (held : Bool)
def Trw (t : TypeId) (cs : List Value) : Prop := ∃ fuel x, DataW.trod enc P W 0 sp held fuel t cs = some x ∧ ∀ z ∈ x.1.weights P t, z ≤ reachBytes
end
section
variable {H : Type} {enc : TypeId × Value → H} {P : Program} {W : World} {sp : Nat → Bool} {held : Bool} {t e : TypeId} {cs : List Value}
theorem Trw.of {ts : List TypeId} {ds : List (DataW H)} {v : Value} {d : DataW H} {ps : List MemPlace} (h : DataW.Trod enc P W 0 sp held t v d ps) (hs : (DataW.weightsEach P ts ds).all (· ≤ reachBytes) = true) (j : Nat) (ht : ts[j]? = some t) (hd : ds[j]? = some d) : Trw enc P W sp held t v.cells.toList := by
  obtain ⟨fuel, hf⟩ := h
  refine ⟨fuel, _, hf, fun z hz => ?_⟩
  have := List.all_eq_true.1 hs _ (DataW.weights_mem_each ht hd z hz)
  simpa using this
theorem Trw.tr (h : Trw enc P W sp held t cs) : Tr enc P W sp held t cs := by
  obtain ⟨fuel, x, hf, _⟩ := h
  exact ⟨fuel, x, hf⟩
theorem Trw.str (h : Trw enc P W sp held t cs) (ht : P.underlying t = some .string) : ∃ s : List UInt8, cs = [Sx.str s] ∧ s.length ≤ 140737488351232 := by
  obtain ⟨fuel, x, hf, hw⟩ := h
  obtain ⟨n, h1, h2, _⟩ := DataW.trod_string ht hf
  refine ⟨n.data.toList, h1, ?_⟩
  subst h2
  exact hw _ (by simp [DataW.weights])
theorem Trw.struct {fs : Array Field} (h : Trw enc P W sp held t cs) (ht : P.underlying t = some (.struct fs)) : cs.length = P.cellsOf t ∧ ∀ (i : Nat) (f : Field), fs[i]? = some f → Trw enc P W sp held f.type ((cs.drop f.offset).take (P.cellsOf f.type)) := by
  obtain ⟨fuel, x, hf, hw⟩ := h
  obtain ⟨xs, n, _, hx, h1, h2, h3⟩ := DataW.trod_struct ht hf
  subst hx
  refine ⟨h1, fun i f hi => ?_⟩
  have hlt : i < fs.size := (Array.getElem?_eq_some_iff.1 hi).1
  refine ⟨n, xs[i]'(by omega), by rw [h3 i f hi]; exact List.getElem?_eq_getElem _, fun z hz => hw z ?_⟩
  simp only [DataW.weights, ht]
  exact DataW.weights_mem_each (j := i) (by simp [hi]) (by simp [List.getElem?_map, List.getElem?_eq_getElem (show i < xs.length by omega)]) z hz
theorem Trw.field {fs : Array Field} (h : Trw enc P W sp held t cs) (ht : P.underlying t = some (.struct fs)) (i : Nat) {f : Field} (hi : fs[i]? = some f) {o k T : Nat} (ho : f.offset = o) (hT : f.type = T) (hk : P.cellsOf T = k) : Trw enc P W sp held T ((cs.drop o).take k) := by
  have := (h.struct ht).2 i f hi
  rwa [ho, hT, hk] at this
theorem Trw.pieces {fs : Array Field} (h : Trw enc P W sp held t cs) (ht : P.underlying t = some (.struct fs)) (ks : List Nat) (hk : P.cellsOf t = ks.sum) : cs = Sx.pieces cs 0 ks := pieces_all ks (by rw [(h.struct ht).1, hk])
theorem Trw.i64 (h : Trw enc P W sp held t cs) (ht : P.underlying t = some (.int .i64)) : ∃ n, cs = [Sx.i64 n] ∧ -9223372036854775808 ≤ n ∧ n ≤ 9223372036854775807 := h.tr.i64 ht
theorem Trw.bool (h : Trw enc P W sp held t cs) (ht : P.underlying t = some .bool) : ∃ b, cs = [.bool b] := h.tr.bool ht
theorem Trw.bytes {n : Nat} (h : Trw enc P W sp held t cs) (ht : P.underlying t = some (.array n e)) (he : P.underlying e = some (.int .u8)) (hn : P.cellsOf t = n) (h1 : P.cellsOf e = 1) : ∃ bs : List UInt8, cs = bs.map Sx.u8 ∧ bs.length = n := h.tr.bytes ht he hn h1
end
theorem u8_of {n : Int} (h : (Lit.int .u8 n).wf = true) : ∃ u : UInt8, n = (u.toNat : Int) := by
  simp [Lit.wf, IntKind.min, IntKind.max, IntKind.bits, IntKind.signed] at h
  refine ⟨UInt8.ofNat n.toNat, ?_⟩
  rw [UInt8.toNat_ofNat']
  omega
end Go.Sx

/- Bids, receipts, batches and items as cells. -/
namespace Go.Note
open Go.Sx
abbrev I64 (n : Int) : Prop := -9223372036854775808 ≤ n ∧ n ≤ 9223372036854775807
def Bid.cells (b : Bid) : List Value := i64 b.round :: i64 b.who :: i64 b.amount :: i64 b.salt :: b.tag.map u8
structure Bid.Wf (b : Bid) : Prop where
  round : I64 b.round
  who : I64 b.who
  amount : I64 b.amount
  salt : I64 b.salt
  tag : b.tag.length = 32
end Go.Note
namespace Go.Note
open Go.Sx
def Receipt.cells (r : Receipt) : List Value := i64 r.index :: i64 r.kind :: i64 r.time :: str r.body :: (r.prev.map u8 ++ r.hash.map u8)
structure Receipt.Wf (r : Receipt) : Prop where
  index : I64 r.index
  kind : I64 r.kind
  time : I64 r.time
  body : r.body.length ≤ 140737488351232
  prev : r.prev.length = 32
  hash : r.hash.length = 32
def Item.cells (i : Item) : List Value := [i64 i.kind, i64 i.who, i64 i.n, str i.text]
structure Item.Wf (i : Item) : Prop where
  kind : I64 i.kind
  who : I64 i.who
  n : I64 i.n
  text : i.text.length ≤ 140737488351232
def Part.cells (p : Part) : List Value := [.bool p.delayed, str p.text]
def pc (ps : List Part) : List Value := (ps.map Part.cells).flatten
end Go.Note
namespace Go.Note
open Go.Sx
end Go.Note
namespace Go.Note
open Go.Sx
def Batch.cells (b : Batch) (A : Option Addr) (c : Nat) : List Value := [i64 b.seq, i64 b.first, i64 b.before, .slice A b.parts.length c]
structure Batch.Wf (b : Batch) : Prop where
  seq : I64 b.seq
  first : I64 b.first
  before : I64 b.before
  len : b.parts.length ≤ 9223372036854775807
  texts : ∀ p ∈ b.parts, p.text.length ≤ 140737488351232
end Go.Note
namespace Go.Note
open Go.Sx
end Go.Note
namespace Go.Note
open Go.Sx
end Go.Note

/- What the inbox must give at any rate. -/
namespace Go.Inbox
open Go.Note (Z num)
def awB : Block := ⟨3, 0, Z, [⟨1, 1, 0, [97]⟩, ⟨2, 0, 2, []⟩]⟩
end Go.Inbox

/- One of each, as cells. -/
namespace Go.Note
open Go.Sx
structure All where
  bid : Bid
  receipt : Receipt
  batch : Batch
  A : Option Addr
  c : Nat
  item : Item
def All.cells (x : All) : List Value :=
  i64 x.bid.round :: i64 x.bid.who :: i64 x.bid.amount :: i64 x.bid.salt :: (x.bid.tag.map u8 ++ (i64 x.receipt.index :: i64 x.receipt.kind :: i64 x.receipt.time :: str x.receipt.body :: (x.receipt.prev.map u8 ++ (x.receipt.hash.map u8 ++
    [i64 x.batch.seq, i64 x.batch.first, i64 x.batch.before, .slice x.A x.batch.parts.length x.c, i64 x.item.kind, i64 x.item.who, i64 x.item.n, str x.item.text]))))
theorem All.cells_is (x : All) : Bid.cells x.bid ++ (Receipt.cells x.receipt ++ (Batch.cells x.batch x.A x.c ++ Item.cells x.item)) = All.cells x := by
  simp [All.cells, Bid.cells, Receipt.cells, Batch.cells, Item.cells]
structure All.Wf (W : World) (x : All) : Prop where
  bid : Bid.Wf x.bid
  receipt : Receipt.Wf x.receipt
  batch : Batch.Wf x.batch
  rd : Rd W x.A (pc x.batch.parts)
  item : Item.Wf x.item
end Go.Note
namespace Go.Note
open Go.Sx
end Go.Note

/- Blocks and the inbox's entries as cells. -/
namespace Go.Inbox
open Go.Sx
open Go.Note (Z I64)
theorem flat_lenM {α : Type} {f : α → List Value} {z : Nat} : ∀ (l : List α), (∀ x ∈ l, (f x).length = z) → ((l.map f).flatten).length = l.length * z
  | [], _ => by simp
  | x :: l, h => by
    have h0 := h x (by simp)
    have ih := flat_lenM l (fun y hy => h y (by simp [hy]))
    simp only [List.map_cons, List.flatten_cons, List.length_append, List.length_cons, ih, h0]
    rw [Nat.add_mul]
    omega
theorem flat_takeM {α : Type} {f : α → List Value} {z : Nat} (d : α) : ∀ (l : List α) (i : Nat), (∀ x ∈ l, (f x).length = z) → i < l.length → (((l.map f).flatten).drop (i * z)).take z = f (l.getD i d)
  | [], i, _, h => absurd h (by simp)
  | x :: l, 0, h, _ => by
    have h0 := h x (by simp)
    simp only [Nat.zero_mul, List.drop_zero, List.map_cons, List.flatten_cons]
    rw [← h0, List.take_left]
    rfl
  | x :: l, i + 1, h, hi => by
    have h0 := h x (by simp)
    have ih := flat_takeM d l i (fun y hy => h y (by simp [hy])) (by simpa using hi)
    simp only [List.map_cons, List.flatten_cons]
    rw [show (i + 1) * z = (f x).length + i * z by rw [h0, Nat.add_mul]; omega, Oct.drop_at, ih]
    rfl
theorem flat_getM {α : Type} {f : α → List Value} {z : Nat} (d : α) {l : List α} {i j : Nat} (h : ∀ x ∈ l, (f x).length = z) (hi : i < l.length) (hj : j < z) : ((l.map f).flatten)[i * z + j]? = (f (l.getD i d))[j]? := by
  rw [← flat_takeM d l i h hi, List.getElem?_take, if_pos hj, List.getElem?_drop]
def ic (l : List Note.Item) : List Value := (l.map Note.Item.cells).flatten
/-- A block, and where its items lie. -/
structure BA where
  b : Block
  A : Option Addr
  c : Nat
def BA.zero : BA := ⟨⟨0, 0, Z, []⟩, none, 0⟩
def BA.cells (x : BA) : List Value := i64 x.b.number :: i64 x.b.salt :: (x.b.parent.map u8 ++ [.slice x.A x.b.items.length x.c])
structure BA.Wf (W : World) (x : BA) : Prop where
  number : I64 x.b.number
  salt : I64 x.b.salt
  parent : x.b.parent.length = 32
  len : x.b.items.length ≤ 9223372036854775807
  items : ∀ i ∈ x.b.items, Note.Item.Wf i
  rd : Rd W x.A (ic x.b.items)
theorem BA.cells_len {x : BA} (h : x.b.parent.length = 32) : x.cells.length = 35 := by simp [BA.cells, h]
def bc (l : List BA) : List Value := (l.map BA.cells).flatten
def Entry.cells (e : Entry) : List Value := i64 e.who :: str e.text :: i64 e.block :: e.acc.map u8
structure Entry.Wf (e : Entry) : Prop where
  who : I64 e.who
  text : e.text.length ≤ 140737488351232
  block : I64 e.block
  acc : e.acc.length = 32
theorem Entry.cells_len {e : Entry} (h : e.acc.length = 32) : e.cells.length = 35 := by simp [Entry.cells, h]
end Go.Inbox

/- The inbox's messages, block by block and item by item. -/
namespace Go.Inbox
open Go.Note (Z)
theorem memD {α : Type} {l : List α} {k : Nat} (d : α) (h : k < l.length) : l.getD k d ∈ l := by
  rw [Oct.getD_eq d h]
  exact List.getElem_mem h
/-! ### Calls -/
end Go.Inbox

/- What the inbox must give at any rate, as cells. -/
namespace Go.Inbox
open Go.Sx
open Go.Note (Z I64)
/-- What a call names. -/
structure Q where
  n : Int
  t : Int
  wt : Int
def Q.cells (q : Q) : List Value := [Sx.i64 q.n, Sx.i64 q.t, Sx.i64 q.wt]
end Go.Inbox

/- Own words: the first blocks of a list, the first entries, worlds that grow. -/
namespace Go.Inbox
open Go.Sx
open Go.Note (Z I64)
theorem BA.Wf.frm {S : List Nat} {w0 w : World} {x : BA} (h : BA.Wf w0 x) (k : Frm S w0 w) (hS : ∀ ad, x.A = some ad → ad.block ∉ S) : BA.Wf w x := { h with rd := h.rd.frm k hS }
theorem flat_pre {α : Type} {f : α → List Value} {z : Nat} : ∀ (l : List α) (k : Nat), (∀ x ∈ l, (f x).length = z) → ((l.take k).map f).flatten = ((l.map f).flatten).take (k * z)
  | [], k, _ => by simp
  | x :: l, 0, _ => by simp
  | x :: l, k + 1, h => by
    have h1 := flat_pre l k (fun y hy => h y (List.mem_cons_of_mem _ hy))
    have h2 := h x List.mem_cons_self
    simp only [List.take_succ_cons, List.map_cons, List.flatten_cons, h1]
    rw [List.take_append, h2, List.take_of_length_le (l := f x) (by rw [h2, Nat.succ_mul]; omega), show (k + 1) * z - z = k * z by rw [Nat.succ_mul]; omega]
theorem bc_pre {W : World} {l : List BA} (h : ∀ x ∈ l, BA.Wf W x) (k : Nat) : bc (l.take k) = (bc l).take (k * 35) := flat_pre l k fun x hx => BA.cells_len (h x hx).parent
/-- At most n of the blocks. -/
theorem few {w : World} {X : List BA} {A : Option Addr} (n : Nat) (hX : ∀ x ∈ X, BA.Wf w x) (hit : ∀ x ∈ X, x.b.items.length ≤ 1048576) (hR : Rd w A (bc X)) :
    ∃ Y : List BA, (∀ x ∈ Y, BA.Wf w x) ∧ (∀ x ∈ Y, x.b.items.length ≤ 1048576) ∧ Rd w A (bc Y) ∧ Y.length ≤ n ∧ (X.length ≤ n → Y.length = X.length) ∧ (n < X.length → Y.length = n) :=
  ⟨X.take n, fun x hx => hX x (List.mem_of_mem_take hx), fun x hx => hit x (List.mem_of_mem_take hx), by rw [bc_pre hX]; exact hR.take _, by simp; omega, fun h => by simp; omega, fun h => by simp; omega⟩
end Go.Inbox

/- Own words: functions as values; calls that are given several items. -/
set_option linter.unusedVariables false
set_option linter.unusedSimpArgs false
namespace Go.Sx
open Go.RowKit
variable {P : Program} {n : Nat} {S : List Nat} {w0 w : World} {ss : List (Nat × Value)} {l : List It} {o : Oper} {a : Act}
variable {ops : Array Oper} {Q : Exit → Act → World → Prop} {rest : List Oper}
/-- A function value with what it holds. -/
theorem y_fn {f : Fn} {xs ys : List Operand} {us vs : List Value} (ho : o.op = .makeFunc f xs.toArray ys.toArray) (hx : evs ss xs = some us) (hy : evs ss ys = some vs) : Yld P n S w0 ss l o (.func f us.toArray vs.toArray) := by
  intro a w F _
  have h1 := evs_map F hx
  have h2 := evs_map F hy
  simp [execOp, ho, Instr.makeFunc, List.map_toArray, h1, h2]
theorem y_min2 {x y : Operand} {t u : TypeId} {k : IntKind} {p q : Int} (ho : o.op = .call { callee := .builtin .min, args := #[x, y], argTypes := #[t, u] }) (hx : evO ss x = some (.int k p)) (hy : evO ss y = some (.int k q)) : Yld P n S w0 ss l o (.int k (min p q)) := by
  intro a w F _
  have e : (if q < p then q else p) = min p q := by split <;> omega
  simp [execOp, ho, F.ev hx, F.ev hy, resolve, invoke, builtin, Builtin.min_, Builtin.min2, e]
/-- A call that runs a function of the program on arguments. -/
def Enters (P : Program) (n : Nat) (ss : List (Nat × Value)) (o : Oper) (f : FuncId) (args : List Value) : Prop := ∀ a w, Fr n ss a → (execOp a.eval o).run P w = .ok (.enter f args.toArray) w
theorem enters_call {f : FuncId} {xs : List Operand} {ts : Array TypeId} {args : List Value} (ho : o.op = .call { callee := .value (.func f), args := xs.toArray, argTypes := ts }) (hc : callB P f = true) (ha : evs ss xs = some args) : Enters P n ss o f args :=
  fun _ _ F => run_call ho hc F ha
theorem enters_callv {g : Operand} {f : FuncId} {fs cs : List Value} {xs : List Operand} {ts : Array TypeId} {args all : List Value} (ho : o.op = .call { callee := .value g, args := xs.toArray, argTypes := ts }) (hg : evO ss g = some (.func (.func f) fs.toArray cs.toArray)) (hc : callB P f = true) (ha : evs ss xs = some args) (hall : fs ++ args ++ cs = all) : Enters P n ss o f all :=
  fun _ _ F => run_callv ho hg hc F ha (by simpa using hall)
/-- One item of several. -/
inductive Pick : List It → It → List It → Prop
  | head (i : It) (l : List It) : Pick (i :: l) i l
  | tail (x : It) {i : It} {l r : List It} : Pick l i r → Pick (x :: l) i (x :: r)
theorem Pick.perm {l r : List It} {i : It} (h : Pick l i r) : l.Perm (i :: r) := by
  induction h with
  | head i l => exact .refl _
  | tail x h ih => exact (ih.cons x).trans (.swap _ _ _)
theorem Ph {i : It} {l : List It} : Pick (i :: l) i l := .head i l
theorem Pt {x i : It} {l r : List It} (h : Pick l i r) : Pick (x :: l) i (x :: r) := .tail x h
inductive Picks : List It → List It → List It → Prop
  | nil (l : List It) : Picks l [] l
  | cons {l m r is : List It} {i : It} : Pick l i m → Picks m is r → Picks l (i :: is) r
theorem Picks.perm {l r is : List It} (h : Picks l is r) : l.Perm (is ++ r) := by
  induction h with
  | nil l => exact .refl _
  | cons h _ ih => exact h.perm.trans (ih.cons _)
def fps (l : List It) : List Nat := l.flatMap It.fp
theorem mem_fps {l : List It} {b : Nat} (h : b ∈ fps l) : ∃ i ∈ l, b ∈ i.fp := List.mem_flatMap.1 h
/-- A call that is given some items, and leaves others. -/
theorem st_callk {d : Nat} {f : FuncId} {args : List Value} {is lr : List It} {Φ : Value → List It → Prop} (he : Enters P n ss o f args) (hw : wantB ops ss o = some true) (hd : o.dst = some d) (hn : Nat.ble (d + 1) n = true) (H : St n S w0 ss l a w)
    (hp : Picks l is lr) (hk : Calls P f args.toArray w (Post (fps is) w Φ)) (K : ∀ v l' a' w', Φ v l' → St n S w0 ((d, v) :: ss) (l' ++ lr) a' w' → wpList P ops Q rest a' w') : wpList P ops Q (o :: rest) a w :=
  st_enter (lT := is) (he a w H.fr) hw hd hn ⟨H.fr, H.sep.perm hp.perm.symm⟩ (fun b hb => mem_fps hb) hk K
theorem rot {x : It} (H : St n S w0 ss (x :: l) a w) : St n S w0 ss (l ++ [x]) a w := ⟨H.fr, H.sep.perm (List.perm_append_comm (l₁ := l) (l₂ := [x]))⟩
/-- What a call is given stands by itself. -/
theorem Sep.given {is lr : List It} (H : Sep S w0 w l) (hp : Picks l is lr) : Sep (fps is) w w is := by
  have h := (H.perm hp.perm.symm)
  refine ⟨Frm.refl _ _, fun i hi => h.all i (List.mem_append_left _ hi), fun i hi b hb => .inl (List.mem_flatMap.2 ⟨i, hi, hb⟩), (List.pairwise_append.1 h.dis).1⟩
end Go.Sx
