/- Own words: a region that draws, with calls among reads: the reads taken as they come, under what stays. -/
import Derived.Test.YtaeahloenahelaaDoorSxH
import Derived.Deep.RegionHeld3
set_option linter.unusedVariables false
set_option linter.unusedSimpArgs false
namespace Go.Sx
open Go.RowKit

variable {P : Program} {n : Nat} {S : List Nat} {w0 : World} {ss : List (Nat × Value)} {l ls : List It}
variable {rl : List Oper} {Q : Exit → Act → World → Prop} {o : Oper} {a : Act} {w : World} {fuel : Nat} {listed : Array Bool}

def HQ (P : Program) (rl : List Oper) (Q : Exit → Act → World → Prop) (T : World → Prop) (fuel : Nat) (listed : Array Bool) : Exit → Act → World → Prop :=
  fun e a w => e = .normal ∧ T w ∧ wpAnyH P .any rl.toArray (NoPanic Q) T fuel listed a w
theorem hreg {id : Nat} (ls : List It) (hs : ∀ w, Sep S w0 w l → Sep S w0 w ls) (hm : P.follows .mixedOrders = true) (H : St n S w0 ss l a w)
    (h : ∀ w', St n S w0 ss l a w' → wpAnyH P .any rl.toArray (NoPanic Q) (fun w => Sep S w0 w ls) rl.length (Array.replicate rl.length false) a w') : (Code.region id rl.toArray true).wp P Q a w :=
  wp_region_noPanic (wp_region_held hm (by
    have h1 := h _ ⟨H.fr, H.sep.drewN 1⟩
    have e : rl.toArray.size = rl.length := by simp
    rw [e]
    exact h1))
def takeB (rl : List Oper) (listed : Array Bool) (i : Nat) : Bool := Region.noSelect rl.toArray && Region.free .any rl.toArray listed i && (Region.ready .any rl.toArray listed).contains i
theorem htake (i : Nat) {d : Nat} {v : Value} (hi : rl[i]? = some o) (hB : takeB rl listed i = true) (hy : Yld P n S w0 ss ls o v) (hw : wantB rl.toArray ss o = some true) (hd : o.dst = some d) (hn : Nat.ble (d + 1) n = true) (hs : ∀ w, Sep S w0 w l → Sep S w0 w ls) (H : St n S w0 ss l a w)
    (K : ∀ a', St n S w0 ((d, v) :: ss) l a' w → wpAnyH P .any rl.toArray (NoPanic Q) (fun w => Sep S w0 w ls) fuel (listed.setIfInBounds i true) a' w) : wpAnyH P .any rl.toArray (NoPanic Q) (fun w => Sep S w0 w ls) (fuel + 1) listed a w := by
  simp only [takeB, Bool.and_eq_true] at hB
  refine wpAnyH_take (v := v) (by simpa using hi) hB.1.1 hB.1.2 hB.2 (fun c a w h => (h : False).elim) (.inl ⟨wanted_of H.fr hw, fun w' hs' => hy a w' H.fr hs'⟩) (hs _ H.sep) ?_
  rw [hd]
  exact K _ ⟨H.fr.put (Nat.lt_of_succ_le (Nat.le_of_ble_eq_true hn)) v, H.sep⟩
def onlyB (rl : List Oper) (listed : Array Bool) (i : Nat) : Bool := Region.ready .any rl.toArray listed == [i]
theorem hgo {T : World → Prop} (i : Nat) (hi : rl[i]? = some o) (hB : onlyB rl listed i = true) (h : wpList P rl.toArray (HQ P rl Q T fuel (listed.setIfInBounds i true)) [o] a w) : wpAnyH P .any rl.toArray (NoPanic Q) T (fuel + 1) listed a w := by
  have hB' : Region.ready .any rl.toArray listed = [i] := by simpa [onlyB] using hB
  refine wpAnyH_all hB' (by simp) fun j hj => ?_
  rw [List.mem_singleton.1 hj]
  unfold wpOp
  have hi' : rl.toArray[i]? = some o := by simpa using hi
  rw [hi']
  unfold wpList at h
  have hlo : ¬ LetsOut (HQ P rl Q T fuel (listed.setIfInBounds i true)) := by rintro ⟨a, w, h, _⟩; cases h
  show if _ then _ else _
  split
  · rename_i hw
    rw [if_pos hw] at h
    rcases h with h | ⟨_, h⟩
    · left
      unfold Oper.wp at h ⊢
      generalize (execOp a.eval o).run P w = r at h
      cases r with
      | ok nx w' =>
        cases nx <;> simp only [Oper.upon] at h ⊢
        case value v => exact h.2
        case skip => exact h.2
        case defer d => exact h.2
        case enter f args =>
          refine h.mono fun e w'' he => ?_
          cases e with
          | returned v => exact he.2
          | panicked c => cases he.1
          | outgrown => exact absurd he hlo
        case row r args => exact h.mono fun v w'' he => he.2
      | halt x w' =>
        cases x <;> simp only [Oper.upon] at h ⊢
        case panic v => cases h.1
    · exact absurd h hlo
  · rename_i hw
    rw [if_neg hw] at h
    exact h.2
theorem hfin {T : World → Prop} (hT : T w) (h : wpAnyH P .any rl.toArray (NoPanic Q) T fuel listed a w) : wpList P rl.toArray (HQ P rl Q T fuel listed) [] a w := ⟨rfl, hT, h⟩
def doneB (rl : List Oper) (listed : Array Bool) : Bool := (Region.ready .any rl.toArray listed).isEmpty
theorem hdone {T : World → Prop} (hB : doneB rl listed = true) (h : Q .normal a w) : wpAnyH P .any rl.toArray (NoPanic Q) T fuel listed a w :=
  wpAnyH_done (by simpa [doneB] using hB) (NoPanic.normal h) fuel
/-- Block b has n cells, of which the first are cs. -/
def It.pre (b : Nat) (E : TypeId) (n : Nat) (cs : List Value) : It where
  fp := [b]
  P := fun w => ∃ r, w.heap[b]? = some (.cells (cs ++ r).toArray E (0, 0)) ∧ (cs ++ r).length = n
  st := fun w w' h hp => by
    obtain ⟨r, h1, h2⟩ := hp
    exact ⟨r, (h b (by simp)).trans h1, h2⟩
  lt := fun w hp c hc => by
    obtain ⟨r, h1, h2⟩ := hp
    rw [List.mem_singleton.1 hc]
    exact (Array.getElem?_eq_some_iff.1 h1).1
theorem Sep.toPre {b n : Nat} {E : TypeId} {full cs : List Value} {l l' : List It} (h : Sep S w0 w l) (u : Upd l (It.blk b E full) (It.pre b E n cs) l') (hr : ∃ r, full = cs ++ r) (hn : full.length = n) : Sep S w0 w l' :=
  h.conv u (fun hp => by obtain ⟨r, e⟩ := hr; subst e; exact ⟨r, hp, hn⟩) (fun _ hb => hb)
theorem y_loadP {x : Operand} {t : TypeId} {b off m : Nat} {E : TypeId} {cs : List Value} {v : Value} (ho : o.op = .load t x) (ht : aggB P t = some false) (hx : evO ss x = some (.pointer (some ⟨b, off, none⟩))) (hm : It.pre b E m cs ∈ l) (hv : cs[off]? = some v) : Yld P n S w0 ss l o v :=
  y_load ho ht hx fun w hs => by
    obtain ⟨r, h1, _⟩ := hs.all _ hm
    rw [cell_blk h1]
    have hlt : off < cs.length := (List.getElem?_eq_some_iff.1 hv).1
    simp only [List.getElem?_toArray]
    rw [List.getElem?_append_left hlt, hv]
end Go.Sx
