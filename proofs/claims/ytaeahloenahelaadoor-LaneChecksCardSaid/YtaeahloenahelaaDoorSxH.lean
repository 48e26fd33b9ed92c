/- Own words: regions that draw and end in a chain, nil pointers, calls that write what they were given. -/
import Derived.Test.YtaeahloenahelaaDoorSxG
import Derived.StillTail
import Derived.WalkSpells
set_option linter.unusedVariables false
set_option linter.unusedSimpArgs false
namespace Go.Sx
open Go.RowKit

variable {P : Program} {n : Nat} {S : List Nat} {w0 : World} {ss : List (Nat × Value)} {l : List It}
variable {ops : Array Oper} {Q : Exit → Act → World → Prop} {rest : List Oper} {o : Oper} {a : Act} {w : World}

theorem treg {id : Nat} {rl : List Oper} (k : Nat) (hm : P.follows .mixedOrders = true) (hB : Region.lexTailB .any rl.toArray k = true) (H : St n S w0 ss l a w)
    (h : ∀ w', St n S w0 ss l a w' → wpStill P rl.toArray w' (fun a' => wpList P rl.toArray Q (rl.drop k) a' w') (rl.take k) a) : (Code.region id rl.toArray true).wp P Q a w :=
  wp_region_still_tail k hm hB (h _ ⟨H.fr, H.sep.drewN 1⟩)
variable {Qa : Act → Prop}
theorem tplain {d : Nat} {v : Value} (hy : Yld P n S w0 ss l o v) (hw : wantB ops ss o = some true) (hd : o.dst = some d) (hn : Nat.ble (d + 1) n = true) (H : St n S w0 ss l a w)
    (K : ∀ a', St n S w0 ((d, v) :: ss) l a' w → wpStill P ops w Qa rest a') : wpStill P ops w Qa (o :: rest) a := by
  unfold wpStill
  rw [if_pos (wanted_of H.fr hw)]
  unfold Oper.still
  rw [hy a w H.fr H.sep, Oper.stillUpon_value, hd]
  exact K _ ⟨H.fr.put (Nat.lt_of_succ_le (Nat.le_of_ble_eq_true hn)) v, H.sep⟩
theorem tfin {a : Act} (h : Qa a) : wpStill P ops w Qa [] a := h

/-! ### Pointers beside nil -/
theorem run_ptr_nil {t e : TypeId} (p : Option Addr) (m : Nat) (h : P.underlying t = some (.pointer e)) : (Op.equalIn (m + 1) t (.pointer p) (.pointer none)).run P w = .ok p.isNone w := by
  unfold Op.equalIn
  simp only [Sem.run_bind, run_underlying h, Result.andThen_ok]
  cases p <;> simp
theorem y_peql {t t' e : TypeId} {x : Operand} {y : Operand} {p : Option Addr} (ho : o.op = .binOp .eql t x y t') (ht : P.underlying t = some (.pointer e)) (hx : evO ss x = some (.pointer p)) (hy : evO ss y = some (.pointer none)) : Yld P n S w0 ss l o (.bool p.isNone) := by
  intro a w F _
  have h1 := run_ptr_nil (w := w) p 9999 ht
  simp [execOp, ho, F.ev hx, F.ev hy, eqGuard, binOp, Op.equal, Op.maxDepth, h1]
/-! ### Calls that write what they were given -/
theorem Sep.only {S : List Nat} {w0 w : World} {l : List It} {i : It} (h : Sep S w0 w l) (hi : i ∈ l) : Sep i.fp w w [i] :=
  ⟨Frm.refl _ _, fun j hj => by rw [List.mem_singleton.1 hj]; exact h.all i hi, fun j hj b hb => by rw [List.mem_singleton.1 hj] at hb; exact .inl hb, by simp⟩
/-- A call that hands back v and turns the item i into i'. -/
def Turns (v : Value) (i i' : It) (w : World) : Ending → World → Prop := Post i.fp w (fun u l => u = v ∧ l = [i'])
/-- .. and at the end of such a callee. -/
theorem Turns.ret {v : Value} {i i' : It} {w w' : World} (h : Sep i.fp w w' [i']) : Turns v i i' w (.returned v) w' := ⟨v, [i'], rfl, ⟨rfl, rfl⟩, h⟩

/-! ### Lists of numbers -/
def i64 (n : Int) : Value := .int .i64 n
theorem i64_get (L : List Int) (k : Nat) (h : k < L.length) : (L.map i64)[k]? = some (.int .i64 (L.getD k 0)) := map_get i64 L k 0 h
/-! ### What is only read -/
theorem Sep.one {i : It} {w : World} (h : i.P w) : Sep i.fp w w [i] :=
  ⟨Frm.refl _ _, fun j hj => by rw [List.mem_singleton.1 hj]; exact h, fun j hj b hb => by rw [List.mem_singleton.1 hj] at hb; exact .inl hb, by simp⟩
theorem Sep.keep {w0 w : World} {l : List It} {i : It} (hs : Sep [] w0 w l) (hp : i.P w0) : i.P w := i.st w0 w (fun b hb => hs.frm.block b (i.lt w0 hp b hb) (by simp)) hp
theorem Sep.still {w w' : World} {b : Nat} {E : TypeId} {cs : List Value} {l : List It} (hp : (It.blk b E cs).P w) (hs : Sep [b] w w' (l ++ [It.blk b E cs])) : Sep [] w w' l := by
  have hd := List.pairwise_append.1 hs.dis
  refine ⟨⟨hs.frm.os, hs.frm.tape, hs.frm.output, hs.frm.size, fun k hk _ => ?_⟩, fun i hi => hs.all i (List.mem_append_left _ hi), fun i hi c hc => ?_, hd.1⟩
  · by_cases e : k = b
    · subst e
      exact (hs.all _ (List.mem_append_right _ (List.mem_singleton.2 rfl))).trans hp.symm
    · exact hs.frm.block k hk (by simpa using e)
  · rcases hs.own i (List.mem_append_left _ hi) c hc with h | h
    · exact absurd h (hd.2.2 i hi _ (List.mem_singleton.2 rfl) c hc)
    · exact .inr h
theorem Post.still {f : FuncId} {args : Array Value} {w : World} {b : Nat} {E : TypeId} {cs : List Value} {Φ : Value → List It → Prop} (hp : (It.blk b E cs).P w)
    (h : Calls P f args w (Post [b] w fun u l => ∃ l', l = l' ++ [It.blk b E cs] ∧ Φ u l')) : Calls P f args w (Post [] w Φ) :=
  h.mono fun e w' ⟨v, l, he, ⟨l', hl, hΦ⟩, hs⟩ => ⟨v, l', he, hΦ, Sep.still hp (hl ▸ hs)⟩
theorem y_ixL {x i : Operand} {t e : TypeId} {z m c b off r : Nat} {k : IntKind} {q : Int} (ho : o.op = .indexAddr t x i) (ht : P.underlying t = some (.slice e)) (hz : sizeB P e = some z) (hx : evO ss x = some (.slice (some ⟨b, off, none⟩) m c)) (hi : evO ss i = some (.int k q)) (h0 : 0 ≤ q) (h1 : q < (m : Int)) (hr : off + q.toNat * z = r) : Yld P n S w0 ss l o (.pointer (some ⟨b, r, none⟩)) := by
  subst hr
  rw [← add_mk]
  exact y_ixS ho ht hz hx hi h0 h1
theorem blk_cell {w : World} {b o : Nat} {E : TypeId} {cs : List Value} {v : Value} (h : (It.blk b E cs).P w) (hv : cs[o]? = some v) : w.cell? ⟨b, o, none⟩ = some v := by rw [cell_blk h]; simpa using hv
end Go.Sx
