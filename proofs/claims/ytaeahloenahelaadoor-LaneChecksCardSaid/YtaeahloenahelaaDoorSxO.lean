/- Own words: stores into the places of a slice that a call owns. -/
import Derived.Test.YtaeahloenahelaaDoorSxM
set_option linter.unusedVariables false
set_option linter.unusedSimpArgs false
namespace Go.Sx
open Go.RowKit
theorem spl_len {cs vs : List Value} {off : Nat} (h : off + vs.length ≤ cs.length) : (spl cs off vs).length = cs.length := by
  unfold spl
  rw [List.length_append, List.length_append, List.length_take, List.length_drop]
  omega
theorem take_spl {cs vs : List Value} {off m : Nat} (h : off + vs.length ≤ m) (hm : m ≤ cs.length) : (spl cs off vs).take m = spl (cs.take m) off vs := by
  unfold spl
  rw [List.take_append, List.take_append, List.length_append, List.length_take, List.take_take, List.take_take, List.take_of_length_le (l := vs) (by omega), List.drop_take, Nat.min_comm m off]
  congr 2
  omega
section
variable {P : Program} {n : Nat} {S : List Nat} {w0 : World} {ss : List (Nat × Value)} {l : List It} {o : Oper}
variable {ops : Array Oper} {rest : List Oper} {Q : Exit → Act → World → Prop} {a : Act} {w : World}
theorem st_storeRow {t E : TypeId} {x y : Operand} {A : Option Addr} {c m n' off z size : Nat} {xs vs : List Value} {v : Value} {l' : List It} (ho : o.op = .store t x y) (hz : sizeB P t = some z) (hx : evO ss x = some (.pointer (A.map (·.add off)))) (hy : evO ss y = some v) (hv : v.cells.toList = vs) (h1 : ∀ u ∈ vs, u.oneCell' = true) (hl : vs.length = z) (hp : 0 < z)
    (hu : Upd l (It.row E size (.slice A m c) n' xs) (It.row E size (.slice A m c) n' (spl xs off vs)) l') (hf : off + z ≤ xs.length) (hw : wantB ops ss o = some true) (hd : o.dst = none) (H : St n S w0 ss l a w)
    (K : ∀ w', St n S w0 ss l' a w' → wpList P ops Q rest a w') : wpList P ops Q (o :: rest) a w := by
  have hP : Row E size (.slice A m c) n' xs w := H.sep.all _ (upd_mem hu)
  obtain ⟨hlen, hrow⟩ := hP
  rcases hrow with ⟨_, h0⟩ | ⟨g, cap, cur, fz, hsl, hg, hnc, hcm, hsz, htk, hfz⟩
  · exfalso
    subst h0
    simp at hlen
    subst hlen
    simp at hf
    omega
  · injection hsl with e1 e2 e3
    subst e1 e2 e3
    have hcur : m * size ≤ cur.toList.length := by
      have : xs.length ≤ cur.toList.length := by rw [← htk, List.length_take]; omega
      omega
    have hfit : off + 0 + vs.length ≤ cur.size := by
      have : cur.toList.length = cur.size := by simp
      omega
    have h2 := run_storeFree (P := P) g off E fz vs 0 cur w hg hfz hfit h1
    have h3 : v.cells.size = z := by rw [← hl, ← hv]; simp
    have hadd : (⟨g, 0, none⟩ : Addr).add off = ⟨g, off, none⟩ := by rw [add_mk, Nat.zero_add]
    have hr : (Instr.storeAt t (.pointer ((some (⟨g, 0, none⟩ : Addr)).map (·.add off))) v).run P w = .ok () (w.setRow g (spl cur.toList off vs).toArray) := by
      simp only [Option.map_some, hadd, Instr.storeAt, Instr.sureAddr, storeVar, Sem.run_bind, Sem.run_pure, Result.andThen_ok, run_sizeOf' hz, h3, ne_eq, not_true_eq_false, if_false, hv]
      simpa [spl] using h2
    refine does_none (w' := w.setRow g (spl cur.toList off vs).toArray) hw hd H ?_ (H.sep.upd hu (i' := It.row E size (.slice (some ⟨g, 0, none⟩) m c) m (spl xs off vs)) ?_ ?_ ?_) (fun H' => K _ H')
    · have hx' : evO ss x = some (.pointer ((some (⟨g, 0, none⟩ : Addr)).map (·.add off))) := hx
      have hr2 : (Instr.storeAt t (.pointer (some ((⟨g, 0, none⟩ : Addr).add off))) v).run P w = .ok () (w.setRow g (spl cur.toList off vs).toArray) := hr
      simp [execOp, ho, H.fr.ev hx', H.fr.ev hy, hr2]
    · have := setRow_frm (w := w) (g := g) (spl cur.toList off vs).toArray
      simpa [It.row, Value.ownBlock] using this
    · refine ⟨by rw [spl_len (by omega)]; exact hlen, .inr ⟨g, c, (spl cur.toList off vs).toArray, fz, rfl, setRow_heap _ _ _ _ _ _ hg, hnc, hcm, ?_, ?_, ?_⟩⟩
      · have := spl_len (cs := cur.toList) (vs := vs) (off := off) (by simp; omega)
        simpa [hsz] using this
      · show (spl cur.toList off vs).take (m * size) = _
        rw [take_spl (by omega) hcur, htk]
      · rcases hfz with h | h
        · exact .inl h
        · right
          have := spl_len (cs := cur.toList) (vs := vs) (off := off) (by simp; omega)
          simp only [List.size_toArray, this]
          simpa using h
    · intro b' hb'
      exact .inl hb'
end
end Go.Sx
