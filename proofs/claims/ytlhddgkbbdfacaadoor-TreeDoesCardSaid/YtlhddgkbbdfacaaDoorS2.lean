/- Own words for walks: memory. -/
import Derived.Test.YtlhddgkbbdfacaaDoorS1
import Derived.Laws.CopyRow
import Derived.Laws.BytesArg
import Derived.Laws.BytesString
import Derived.ChangeKeysEq
set_option linter.unusedVariables false
set_option linter.unusedSimpArgs false
namespace Go.Sx
open Go.RowKit

/-! ### What is asked of the program's tables -/
def aggB (P : Program) (t : TypeId) : Option Bool := (P.underlying t).map fun | .struct _ | .array _ _ => true | _ => false
def sizeB (P : Program) (t : TypeId) : Option Nat := (P.info? t).map (·.size)
def zeroL (P : Program) (t : TypeId) : Option (List Value) := (P.info? t).bind fun i => i.zero.map (·.cells.toList)
def callB (P : Program) (f : FuncId) : Bool := (P.funcs[f]?).any fun fn => !(fn.name == "runtime.NumGoroutine") && fn.body.isSome

section
variable {P : Program} {w : World}
theorem run_sizeOf' {t : TypeId} {z : Nat} (h : sizeB P t = some z) : (sizeOf t).run P w = .ok z w := by
  unfold sizeB at h
  cases hi : P.info? t with
  | none => simp [hi] at h
  | some i =>
    have e : i.size = z := by simpa [hi] using h
    simp [sizeOf, typeInfo, hi, e]
theorem run_isAgg' {t : TypeId} {b : Bool} (h : aggB P t = some b) : (isAgg t).run P w = .ok b w := by
  unfold aggB at h
  cases hi : P.underlying t with
  | none => simp [hi] at h
  | some d =>
    rw [hi] at h
    simp only [isAgg, Sem.run_bind, run_underlying hi, Result.andThen_ok]
    cases d <;> simp_all
theorem run_zero {t : TypeId} {cs : List Value} (h : zeroL P t = some cs) : ∃ z, (zeroValue t).run P w = .ok z w ∧ z.cells.toList = cs := by
  unfold zeroL at h
  cases hi : P.info? t with
  | none => simp [hi] at h
  | some i =>
    rw [hi] at h
    cases hz : i.zero with
    | none => simp [hz] at h
    | some z => exact ⟨z, by simp [zeroValue, typeInfo, hi, hz], by simpa [hz] using h⟩
theorem run_callFunc {f : FuncId} (h : callB P f = true) (args : Array Value) : (callFunc f args).run P w = .ok (.enter f args) w := by
  unfold callB at h
  cases hf : P.funcs[f]? with
  | none => simp [hf] at h
  | some fn =>
    rw [hf] at h
    simp only [Option.any_some, Bool.and_eq_true, Bool.not_eq_true'] at h
    obtain ⟨h1, h2⟩ := h
    have h3 : fn.body.isNone = false := by simpa using h2
    simp only [callFunc, Sem.run_bind, run_program, Result.andThen_ok, hf, h1, Bool.false_eq_true, if_false, h3]
    rfl
end

theorem add_mk (b o k : Nat) : (⟨b, o, none⟩ : Addr).add k = ⟨b, o + k, none⟩ := by unfold Addr.add; split <;> simp_all
theorem cell_blk {w : World} {b : Nat} {E : TypeId} {c : Array Value} {fz : Nat × Nat} (h : w.heap[b]? = some (.cells c E fz)) (o : Nat) : w.cell? ⟨b, o, none⟩ = c[o]? := by simp [World.cell?, h]

/-- From A on the cells cs can be read. -/
def Rd (w : World) (A : Option Addr) (cs : List Value) : Prop := cs = [] ∨ ∃ ad, A = some ad ∧ ∀ j v, cs[j]? = some v → w.cell? (ad.add j) = some v
theorem Rd.nil (w : World) (A : Option Addr) : Rd w A [] := .inl rfl
theorem Rd.cell {w : World} {A : Option Addr} {cs : List Value} (h : Rd w A cs) {j : Nat} {v : Value} (hv : cs[j]? = some v) : ∃ ad, A = some ad ∧ w.cell? (ad.add j) = some v := by
  rcases h with rfl | ⟨ad, e, h⟩
  · simp at hv
  · exact ⟨ad, e, h j v hv⟩
theorem Rd.frm {S : List Nat} {w0 w : World} {A : Option Addr} {cs : List Value} (h : Rd w0 A cs) (k : Frm S w0 w) (hS : ∀ ad, A = some ad → ad.block ∉ S) : Rd w A cs := by
  rcases h with rfl | ⟨ad, e, h⟩
  · exact .inl rfl
  · refine .inr ⟨ad, e, fun j v hv => ?_⟩
    have hc := h j v hv
    have hb : (ad.add j).block = ad.block := by unfold Addr.add; split <;> rfl
    have hlt := World.block_lt_of_cell? _ _ hc
    rw [← hc]
    exact World.cell?_of_block (k.block _ hlt (by rw [hb]; exact hS ad e))
theorem Rd.blk {w : World} {b : Nat} {E : TypeId} {c : Array Value} {fz : Nat × Nat} (h : w.heap[b]? = some (.cells c E fz)) (o k : Nat) : Rd w (some ⟨b, o, none⟩) ((c.toList.drop o).take k) := by
  refine .inr ⟨_, rfl, fun j v hv => ?_⟩
  rw [add_mk, cell_blk h]
  rw [List.getElem?_take] at hv
  split at hv
  · simpa using hv
  · simp at hv
theorem Rd.load {P : Program} {w : World} {ad : Addr} {cs : List Value} (h : Rd w (some ad) cs) : (loadCells ad cs.length).run P w = .ok cs.toArray w := by
  refine run_loadCells_list w ad cs (fun j v hv => ?_)
  obtain ⟨x, e, hc⟩ := h.cell hv
  injection e with e; subst e; exact hc
theorem Rd.take {w : World} {A : Option Addr} {cs : List Value} (h : Rd w A cs) (k : Nat) : Rd w A (cs.take k) := by
  rcases h with rfl | ⟨ad, e, h⟩
  · exact .inl (by simp)
  · refine .inr ⟨ad, e, fun j v hv => h j v ?_⟩
    rw [List.getElem?_take] at hv
    split at hv
    · exact hv
    · simp at hv
theorem add_add (ad : Addr) (i j : Nat) (hs : ad.spot = none) : (ad.add i).add j = ad.add (i + j) := by
  obtain ⟨b, o, s⟩ := ad
  simp only at hs
  subst hs
  simp [add_mk, Nat.add_assoc]
/-- A slice's tail: where nothing is behind it, it may lie where it did. -/
theorem Rd.drop {w : World} {A : Option Addr} {cs : List Value} (h : Rd w A cs) (k : Nat) (c : Prop) [Decidable c] (hc : c → cs.length ≤ k) : Rd w (if c then A else A.map (·.add k)) (cs.drop k) := by
  by_cases hcc : c
  · have := hc hcc
    exact .inl (by simpa using this)
  · rw [if_neg hcc]
    rcases h with rfl | ⟨ad, e, h⟩
    · exact .inl (by simp)
    · refine .inr ⟨ad.add k, by simp [e], fun j v hv => ?_⟩
      have h1 := h (k + j) v (by simpa using hv)
      rcases Nat.eq_zero_or_pos k with rfl | hk
      · have e0 : ad.add 0 = ad := by simp [Addr.add]
        rw [e0]
        simpa using h1
      · have e1 : (ad.add k).add j = ad.add (k + j) := by
          unfold Addr.add
          rcases Nat.eq_zero_or_pos j with rfl | hj
          · simp
          · have h1 : k ≠ 0 := by omega
            have h2 : j ≠ 0 := by omega
            have h3 : k + j ≠ 0 := by omega
            simp [h1, h2, h3, Nat.add_assoc]
        rw [e1]
        exact h1

/-- A slice value of the call's own, that may grow: what is in it. -/
def Row (e : TypeId) (size : Nat) (v : Value) (n : Nat) (xs : List Value) (w : World) : Prop :=
  xs.length = n * size ∧
  ((v = .slice none 0 0 ∧ n = 0) ∨
   ∃ g cap cur fz, v = .slice (some ⟨g, 0, none⟩) n cap ∧ w.heap[g]? = some (.cells cur e fz) ∧ n ≤ cap ∧ cap ≤ maxLen ∧ cur.size = cap * size ∧ cur.toList.take (n * size) = xs ∧ (fz = (0, 0) ∨ cur.size ≤ fz.1))

def It.row (e : TypeId) (size : Nat) (v : Value) (n : Nat) (xs : List Value) : It where
  fp := v.ownBlock.toList
  P := Row e size v n xs
  st := fun w w' h hp => by
    refine ⟨hp.1, ?_⟩
    rcases hp.2 with h1 | ⟨g, cap, cur, fz, hv, hg, h2⟩
    · exact .inl h1
    · refine .inr ⟨g, cap, cur, fz, hv, ?_, h2⟩
      rw [h g (by subst hv; simp [Value.ownBlock])]
      exact hg
  lt := fun w hp b hb => by
    rcases hp.2 with ⟨h1, _⟩ | ⟨g, cap, cur, fz, hv, hg, h2⟩
    · subst h1; simp [Value.ownBlock] at hb
    · subst hv
      have : b = g := by simpa [Value.ownBlock] using hb
      subst this
      exact (Array.getElem?_eq_some_iff.1 hg).1

theorem Row.rd {e : TypeId} {size : Nat} {v : Value} {n : Nat} {xs : List Value} {w : World} (h : Row e size v n xs w) : ∃ A c, v = .slice A n c ∧ Rd w A xs ∧ n ≤ maxLen := by
  rcases h.2 with ⟨h1, h2⟩ | ⟨g, cap, cur, fz, hv, hg, h1, h2, h3, h4, h5⟩
  · subst h2
    exact ⟨none, 0, h1, .inl (by have := h.1; simpa using this), by simp⟩
  · refine ⟨_, cap, hv, ?_, by omega⟩
    have := Rd.blk hg 0 (n * size)
    simpa [h4] using this
theorem Row.nil (e : TypeId) (size : Nat) (w : World) : Row e size (.slice none 0 0) 0 [] w := ⟨by simp, .inl ⟨rfl, rfl⟩⟩
theorem row_of_blk {b : Nat} {E : TypeId} {cs : List Value} {size n : Nat} {w : World} (h : (It.blk b E cs).P w) (hl : cs.length = n * size) (hm : n ≤ maxLen) : Row E size (.slice (some ⟨b, 0, none⟩) n n) n cs w :=
  ⟨hl, .inr ⟨b, n, cs.toArray, (0, 0), rfl, h, Nat.le_refl _, hm, by simpa using hl, by rw [← hl]; simp, .inl rfl⟩⟩

section
variable {P : Program} {n : Nat} {S : List Nat} {w0 : World} {ss : List (Nat × Value)} {l : List It} {o : Oper}
variable {ops : Array Oper} {Q : Exit → Act → World → Prop} {rest : List Oper} {a : Act} {w : World}

/-! ### Addresses -/
theorem y_field {x : Operand} {t : TypeId} {i b off r : Nat} {fs : Array Field} {f : Field} (ho : o.op = .fieldAddr t x i) (ht : P.underlying t = some (.struct fs)) (hf : fs[i]? = some f) (hz : (sizeB P f.type).any (· != 0) = true) (hx : evO ss x = some (.pointer (some ⟨b, off, none⟩))) (hr : off + f.offset = r) : Yld P n S w0 ss l o (.pointer (some ⟨b, r, none⟩)) := by
  intro a w F _
  cases hs : sizeB P f.type with
  | none => simp [hs] at hz
  | some z =>
    have h0 : z ≠ 0 := by simpa [hs] using hz
    subst hr
    simp [execOp, ho, F.ev hx, Instr.fieldAt, run_underlying ht, hf, Instr.sureAddr, fieldPlace, run_sizeOf' hs, h0, add_mk]
/-- The same, off the tables by one closed fact. -/
def fieldB (P : Program) (t : TypeId) (i : Nat) : Option Nat :=
  match P.underlying t with
  | some (.struct fs) => (fs[i]?).bind fun f => if (sizeB P f.type).any (· != 0) then some f.offset else none
  | _ => none
theorem y_fieldB {x : Operand} {t : TypeId} {i b off k r : Nat} (ho : o.op = .fieldAddr t x i) (hf : fieldB P t i = some k) (hx : evO ss x = some (.pointer (some ⟨b, off, none⟩))) (hr : off + k = r) : Yld P n S w0 ss l o (.pointer (some ⟨b, r, none⟩)) := by
  unfold fieldB at hf
  split at hf
  · rename_i fs ht
    cases h1 : fs[i]? with
    | none => simp [h1] at hf
    | some f =>
      rw [h1] at hf
      simp only [Option.bind_some] at hf
      split at hf
      · rename_i hz
        have e : f.offset = k := by simpa using hf
        subst e
        exact y_field ho ht h1 hz hx hr
      · simp at hf
  · simp at hf
theorem y_ixA {x i : Operand} {t e : TypeId} {len z b off r : Nat} {k : IntKind} {q : Int} (ho : o.op = .indexAddr t x i) (ht : P.underlying t = some (.array len e)) (hz : sizeB P e = some z) (hx : evO ss x = some (.pointer (some ⟨b, off, none⟩))) (hi : evO ss i = some (.int k q)) (h0 : 0 ≤ q) (h1 : q < (len : Int)) (hr : off + q.toNat * z = r) : Yld P n S w0 ss l o (.pointer (some ⟨b, r, none⟩)) := by
  intro a w F _
  subst hr
  have h2 : 0 ≤ q ∧ q < (len : Int) := ⟨h0, h1⟩
  simp [execOp, ho, F.ev hx, F.ev hi, Instr.indexAt, asIntOf, run_underlying ht, Instr.sureAddr, run_sizeOf' hz, h2, add_mk]
theorem y_ixS {x i : Operand} {t e : TypeId} {z m c : Nat} {ad : Addr} {k : IntKind} {q : Int} (ho : o.op = .indexAddr t x i) (ht : P.underlying t = some (.slice e)) (hz : sizeB P e = some z) (hx : evO ss x = some (.slice (some ad) m c)) (hi : evO ss i = some (.int k q)) (h0 : 0 ≤ q) (h1 : q < (m : Int)) : Yld P n S w0 ss l o (.pointer (some (ad.add (q.toNat * z)))) := by
  intro a w F _
  have h2 : 0 ≤ q ∧ q < (m : Int) := ⟨h0, h1⟩
  simp [execOp, ho, F.ev hx, F.ev hi, Instr.indexAt, asIntOf, run_underlying ht, run_sizeOf' hz, h2]

/-- An element of a slice that can be read. -/
theorem y_ixR {x i : Operand} {t e : TypeId} {z m c : Nat} {A : Option Addr} {k : IntKind} {q : Int} {cs : List Value} (ho : o.op = .indexAddr t x i) (ht : P.underlying t = some (.slice e)) (hz : sizeB P e = some z) (hx : evO ss x = some (.slice A m c)) (hi : evO ss i = some (.int k q)) (h0 : 0 ≤ q) (h1 : q < (m : Int)) (hr : ∀ w, Sep S w0 w l → Rd w A cs) (hne : 0 < cs.length) : Yld P n S w0 ss l o (.pointer (A.map (·.add (q.toNat * z)))) := by
  intro a w F hs
  have h2 : 0 ≤ q ∧ q < (m : Int) := ⟨h0, h1⟩
  rcases hr w hs with h | ⟨ad, ea, _⟩
  · subst h; simp at hne
  · subst ea
    simp [execOp, ho, F.ev hx, F.ev hi, Instr.indexAt, asIntOf, run_underlying ht, run_sizeOf' hz, h2]
/-! ### Loads -/
theorem y_load {x : Operand} {t : TypeId} {ad : Addr} {v : Value} (ho : o.op = .load t x) (ht : aggB P t = some false) (hx : evO ss x = some (.pointer (some ad))) (hv : ∀ w, Sep S w0 w l → w.cell? ad = some v) : Yld P n S w0 ss l o v := by
  intro a w F hs
  simp [execOp, ho, F.ev hx, Instr.loadAt, Instr.sureAddr, loadVar, run_isAgg' ht, load, Sem.run, hv w hs]
theorem y_loadA {x : Operand} {t : TypeId} {ad : Addr} {z : Nat} {cs : List Value} (ho : o.op = .load t x) (ht : aggB P t = some true) (hz : sizeB P t = some z) (hx : evO ss x = some (.pointer (some ad))) (hl : cs.length = z) (hv : ∀ w, Sep S w0 w l → Rd w (some ad) cs) : Yld P n S w0 ss l o (.agg cs.toArray) := by
  intro a w F hs
  subst hl
  simp [execOp, ho, F.ev hx, Instr.loadAt, Instr.sureAddr, loadVar, run_isAgg' ht, run_sizeOf' hz, (hv w hs).load]
theorem y_loadR {x : Operand} {t : TypeId} {A : Option Addr} {k : Nat} {cs : List Value} {v : Value} (ho : o.op = .load t x) (ht : aggB P t = some false) (hx : evO ss x = some (.pointer (A.map (·.add k)))) (hr : ∀ w, Sep S w0 w l → Rd w A cs) (hv : cs[k]? = some v) : Yld P n S w0 ss l o v := by
  intro a w F hs
  obtain ⟨ad, ea, hc⟩ := (hr w hs).cell hv
  subst ea
  exact y_load ho ht (ad := ad.add k) (by rw [hx]; rfl) (fun w hs => by
    obtain ⟨ad', ea', hc'⟩ := (hr w hs).cell hv
    injection ea' with ea'
    subst ea'
    exact hc') a w F hs
theorem y_loadAR {x : Operand} {t : TypeId} {A : Option Addr} {k z : Nat} {cs ds : List Value} (ho : o.op = .load t x) (ht : aggB P t = some true) (hz : sizeB P t = some z) (hx : evO ss x = some (.pointer (A.map (·.add k)))) (hr : ∀ w, Sep S w0 w l → Rd w A cs) (hv : (cs.drop k).take z = ds) (hl : ds.length = z) (hp : 0 < z) (hsp : ∀ ad, A = some ad → ad.spot = none) : Yld P n S w0 ss l o (.agg ds.toArray) := by
  intro a w F hs
  rcases hr w hs with h | ⟨ad, ea, _⟩
  · subst h; simp at hv; subst hv; simp at hl; omega
  · subst ea
    have hsp' := hsp ad rfl
    exact y_loadA ho ht hz (ad := ad.add k) (by rw [hx]; rfl) hl (fun w hs => by
      refine .inr ⟨_, rfl, fun j v hj => ?_⟩
      subst hv
      rw [List.getElem?_take] at hj
      split at hj
      · obtain ⟨ad', ea', hc'⟩ := (hr w hs).cell (j := k + j) (v := v) (by simpa using hj)
        injection ea' with ea'
        subst ea'
        rw [add_add _ _ _ hsp']
        exact hc'
      · simp at hj) a w F hs
theorem rd_old {A : Option Addr} {cs : List Value} (h : Rd w0 A cs) (hS : ∀ ad, A = some ad → ad.block ∉ S) : ∀ w, Sep S w0 w l → Rd w A cs := fun w hs => h.frm hs.frm hS
theorem rd_row {e : TypeId} {size m m' c : Nat} {A : Option Addr} {cs : List Value} (hm : It.row e size (.slice A m c) m' cs ∈ l) : ∀ w, Sep S w0 w l → Rd w A cs := fun w hs => by
  obtain ⟨A', c', hv, hr, _⟩ := Row.rd (hs.all _ hm)
  injection hv with h1 h2 h3
  subst h1
  exact hr
theorem rd_blk {b off : Nat} {E : TypeId} {cs ds : List Value} (hm : It.blk b E cs ∈ l) (k : Nat) (hd : (cs.drop off).take k = ds) : ∀ w, Sep S w0 w l → Rd w (some ⟨b, off, none⟩) ds := fun w hs => by
  have := Rd.blk (hs.all _ hm) off k
  simpa [hd] using this
theorem rd_blkA {b : Nat} {E : TypeId} {cs : List Value} (hm : It.blk b E cs ∈ l) : ∀ w, Sep S w0 w l → Rd w (some ⟨b, 0, none⟩) cs := rd_blk hm cs.length (by simp)
theorem blk_at {b : Nat} {E : TypeId} {cs : List Value} (hm : It.blk b E cs ∈ l) (hs : Sep S w0 w l) : w.heap[b]? = some (.cells cs.toArray E (0, 0)) := hs.all _ hm
theorem y_loadB {x : Operand} {t : TypeId} {b off : Nat} {E : TypeId} {cs : List Value} {v : Value} (ho : o.op = .load t x) (ht : aggB P t = some false) (hx : evO ss x = some (.pointer (some ⟨b, off, none⟩))) (hm : It.blk b E cs ∈ l) (hv : cs[off]? = some v) : Yld P n S w0 ss l o v :=
  y_load ho ht hx fun w hs => by rw [cell_blk (blk_at hm hs)]; simpa using hv
theorem y_loadAB {x : Operand} {t : TypeId} {b off z : Nat} {E : TypeId} {cs ds : List Value} (ho : o.op = .load t x) (ht : aggB P t = some true) (hz : sizeB P t = some z) (hx : evO ss x = some (.pointer (some ⟨b, off, none⟩))) (hm : It.blk b E cs ∈ l) (hv : (cs.drop off).take z = ds) (hl : ds.length = z) : Yld P n S w0 ss l o (.agg ds.toArray) :=
  y_loadA ho ht hz hx hl fun w hs => by
    have := Rd.blk (blk_at hm hs) off z
    simpa [hv] using this
/-- An old cell. -/
theorem y_loadO {x : Operand} {t : TypeId} {ad : Addr} {v : Value} (ho : o.op = .load t x) (ht : aggB P t = some false) (hx : evO ss x = some (.pointer (some ad))) (hv : w0.cell? ad = some v) (hS : ad.block ∉ S) : Yld P n S w0 ss l o v :=
  y_load ho ht hx fun w hs => by
    rw [← hv]
    exact World.cell?_of_block (hs.frm.block _ (World.block_lt_of_cell? _ _ hv) hS)
/-! ### Slices of arrays and of slices -/
theorem y_slA {x lo : Operand} {t e : TypeId} {len z b off : Nat} {k : IntKind} {q : Int} (ho : o.op = .slice t x (some lo) none none) (ht : P.underlying t = some (.array len e)) (hz : sizeB P e = some z) (hx : evO ss x = some (.pointer (some ⟨b, off, none⟩))) (hl : evO ss lo = some (.int k q)) (h0 : 0 ≤ q) (h1 : q ≤ (len : Int)) :
    Yld P n S w0 ss l o (.slice (if len = q.toNat then some ⟨b, off, none⟩ else (some (⟨b, off, none⟩ : Addr)).map (·.add (q.toNat * z))) (len - q.toNat) (len - q.toNat)) := by
  intro a w F _
  have h2 : 0 ≤ q ∧ q ≤ (len : Int) := ⟨h0, h1⟩
  simp [execOp, ho, F.ev hx, F.ev hl, Instr.sliceAt, asIntOf, run_underlying ht, Instr.sureAddr, Instr.sliceBounds, Instr.sliceBound, run_sizeOf' hz, h2]
  split <;> rfl
theorem y_slA_all {x : Operand} {t e : TypeId} {len z b off : Nat} (ho : o.op = .slice t x none none none) (ht : P.underlying t = some (.array len e)) (hz : sizeB P e = some z) (hp : 0 < len) (hx : evO ss x = some (.pointer (some ⟨b, off, none⟩))) :
    Yld P n S w0 ss l o (.slice (some ⟨b, off, none⟩) len len) := by
  intro a w F _
  have : len ≠ 0 := by omega
  simp [execOp, ho, F.ev hx, Instr.sliceAt, run_underlying ht, Instr.sureAddr, Instr.sliceBounds, run_sizeOf' hz, this, Addr.add]
theorem y_slA_lh {x lo hi : Operand} {t e : TypeId} {len z b off : Nat} {k k' : IntKind} {q p : Int} (ho : o.op = .slice t x (some lo) (some hi) none) (ht : P.underlying t = some (.array len e)) (hz : sizeB P e = some z) (hx : evO ss x = some (.pointer (some ⟨b, off, none⟩))) (hl : evO ss lo = some (.int k q)) (hh : evO ss hi = some (.int k' p)) (h0 : 0 ≤ q) (h1 : q ≤ p) (h2 : p ≤ (len : Int)) :
    Yld P n S w0 ss l o (.slice (if len = q.toNat then some ⟨b, off, none⟩ else (some (⟨b, off, none⟩ : Addr)).map (·.add (q.toNat * z))) (p.toNat - q.toNat) (len - q.toNat)) := by
  intro a w F _
  have e1 : 0 ≤ p ∧ p ≤ (len : Int) := ⟨by omega, h2⟩
  have e2 : 0 ≤ q ∧ q ≤ (p.toNat : Int) := ⟨h0, by omega⟩
  have e3 : q ≤ max p 0 := by omega
  simp [execOp, ho, F.ev hx, F.ev hl, F.ev hh, Instr.sliceAt, asIntOf, run_underlying ht, Instr.sureAddr, Instr.sliceBounds, Instr.sliceBound, run_sizeOf' hz, e1, e2, e3]
  split <;> rfl
theorem y_slS_lo {x lo : Operand} {t e : TypeId} {z m c : Nat} {A : Option Addr} {k : IntKind} {q : Int} (ho : o.op = .slice t x (some lo) none none) (ht : P.underlying t = some (.slice e)) (hz : sizeB P e = some z) (hx : evO ss x = some (.slice A m c)) (hl : evO ss lo = some (.int k q)) (h0 : 0 ≤ q) (h1 : q ≤ (m : Int)) :
    Yld P n S w0 ss l o (.slice (if c = q.toNat then A else A.map (·.add (q.toNat * z))) (m - q.toNat) (c - q.toNat)) := by
  intro a w F _
  have h2 : 0 ≤ q ∧ q ≤ (m : Int) := ⟨h0, h1⟩
  simp [execOp, ho, F.ev hx, F.ev hl, Instr.sliceAt, Instr.slice, asIntOf, run_underlying ht, Instr.sliceBounds, Instr.sliceBound, run_sizeOf' hz, h2]
theorem y_slS_hi {x hi : Operand} {t e : TypeId} {z m c : Nat} {A : Option Addr} {k : IntKind} {q : Int} (ho : o.op = .slice t x none (some hi) none) (ht : P.underlying t = some (.slice e)) (hz : sizeB P e = some z) (hx : evO ss x = some (.slice A m c)) (hh : evO ss hi = some (.int k q)) (h0 : 0 ≤ q) (h1 : q ≤ (m : Int)) (hmc : m ≤ c) :
    Yld P n S w0 ss l o (.slice A q.toNat c) := by
  intro a w F _
  have h2 : 0 ≤ q ∧ q ≤ (c : Int) := ⟨h0, by omega⟩
  have h3 : (fun x : Addr => x.add 0) = id := by funext x; simp [Addr.add]
  simp [execOp, ho, F.ev hx, F.ev hh, Instr.sliceAt, Instr.slice, asIntOf, run_underlying ht, Instr.sliceBounds, Instr.sliceBound, run_sizeOf' hz, h2, h3]

/-! ### New memory -/
theorem st_alloc {t : TypeId} {d : Nat} {cs : List Value} (ho : o.op = .alloc t) (hz : zeroL P t = some cs) (hw : wantB ops ss o = some true) (hd : o.dst = some d) (hn : Nat.ble (d + 1) n = true) (H : St n S w0 ss l a w)
    (K : ∀ b a' w', St n S w0 ((d, .pointer (some ⟨b, 0, none⟩)) :: ss) (It.blk b t cs :: l) a' w' → wpList P ops Q rest a' w') : wpList P ops Q (o :: rest) a w := by
  obtain ⟨z, h1, h2⟩ := run_zero (w := w) hz
  refine does (v := .pointer (some ⟨w.heap.size, 0, none⟩)) (w' := w.alloc (.cells z.cells t)) hw hd hn H ?_ (H.sep.alloc _) (fun a' H' => K w.heap.size a' _ ?_)
  · simp [execOp, ho, Instr.alloc, h1, newVar, newRow, newObj, Sem.run]
  · have e : It.blk w.heap.size t cs = It.obj w.heap.size (.cells z.cells t) := by unfold It.blk; rw [← h2]
    rw [e]
    exact H'
theorem st_box {t : TypeId} {x : Operand} {d : Nat} {v : Value} {cs : List Value} (ho : o.op = .box t x) (hx : evO ss x = some v) (hv : v.cells.toList = cs) (hw : wantB ops ss o = some true) (hd : o.dst = some d) (hn : Nat.ble (d + 1) n = true) (H : St n S w0 ss l a w)
    (K : ∀ b a' w', St n S w0 ((d, .pointer (some ⟨b, 0, none⟩)) :: ss) (It.blk b t cs :: l) a' w' → wpList P ops Q rest a' w') : wpList P ops Q (o :: rest) a w := by
  refine does (v := .pointer (some ⟨w.heap.size, 0, none⟩)) (w' := w.alloc (.cells v.cells t)) hw hd hn H ?_ (H.sep.alloc _) (fun a' H' => K w.heap.size a' _ ?_)
  · simp [execOp, ho, H.fr.ev hx, Instr.box, newVar, newRow, newObj, Sem.run]
  · have e : It.blk w.heap.size t cs = It.obj w.heap.size (.cells v.cells t) := by unfold It.blk; rw [← hv]
    rw [e]
    exact H'

/-! ### Stores -/
def spl (cs : List Value) (off : Nat) (vs : List Value) : List Value := cs.take off ++ vs ++ cs.drop (off + vs.length)
theorem spl_one (cs : List Value) (off : Nat) (v : Value) (h : off < cs.length) : spl cs off [v] = cs.set off v := by
  unfold spl
  rw [List.set_eq_take_append_cons_drop, if_pos h]
  simp
theorem setRow_frm {w : World} {g : Nat} (cs : Array Value) : Frm [g] w (w.setRow g cs) :=
  ⟨rfl, rfl, rfl, by simp [World.setRow], fun k hk hn => by
    simp only [World.setRow, Array.getElem?_modify]
    rw [if_neg (by have : ¬ k = g := by simpa using hn
                   omega)]⟩
theorem run_storeB {t E : TypeId} {b off z : Nat} {cs vs : List Value} {v : Value} (hg : w.heap[b]? = some (.cells cs.toArray E (0, 0))) (hz : sizeB P t = some z) (hv : v.cells.toList = vs) (hl : vs.length = z) (hf : off + z ≤ cs.length) (h1 : vs.all (·.oneCell') = true) :
    (Instr.storeAt t (.pointer (some ⟨b, off, none⟩)) v).run P w = .ok () (w.setRow b (spl cs off vs).toArray) := by
  have h2 := run_storeCells_at (P := P) b off E vs 0 cs.toArray w hg (by simpa [hl] using hf) (by simpa using h1)
  have h3 : v.cells.size = z := by rw [← hl, ← hv]; simp
  simp only [Instr.storeAt, Instr.sureAddr, storeVar, Sem.run_bind, Sem.run_pure, Result.andThen_ok, run_sizeOf' hz, h3, ne_eq, not_true_eq_false, if_false, hv]
  simpa [spl] using h2
theorem st_store {t E : TypeId} {x y : Operand} {b off z : Nat} {cs vs : List Value} {v : Value} {l' : List It} (ho : o.op = .store t x y) (hz : sizeB P t = some z) (hx : evO ss x = some (.pointer (some ⟨b, off, none⟩))) (hy : evO ss y = some v) (hv : v.cells.toList = vs) (h1 : vs.all (·.oneCell') = true) (hl : vs.length = z)
    (hu : Upd l (It.blk b E cs) (It.blk b E (spl cs off vs)) l') (hf : off + z ≤ cs.length) (hw : wantB ops ss o = some true) (hd : o.dst = none) (H : St n S w0 ss l a w)
    (K : ∀ w', St n S w0 ss l' a w' → wpList P ops Q rest a w') : wpList P ops Q (o :: rest) a w := by
  have hm : It.blk b E cs ∈ l := by
    obtain ⟨r, h1, _⟩ := hu.perm
    exact h1.symm.subset (by simp)
  have hg := blk_at hm H.sep
  refine does_none (w' := w.setRow b (spl cs off vs).toArray) hw hd H ?_ (H.sep.upd hu (setRow_frm _) ?_ (by intro b' hb'; exact .inl hb')) (fun H' => K _ H')
  · simp [execOp, ho, H.fr.ev hx, H.fr.ev hy, run_storeB hg hz hv hl hf h1]
  · exact setRow_heap _ _ _ _ _ _ hg
/-- One cell. -/
theorem st_store1 {t E : TypeId} {x y : Operand} {b off : Nat} {cs : List Value} {v : Value} {l' : List It} (ho : o.op = .store t x y) (hz : sizeB P t = some 1) (hx : evO ss x = some (.pointer (some ⟨b, off, none⟩))) (hy : evO ss y = some v) (h1 : v.oneCell' = true)
    (hu : Upd l (It.blk b E cs) (It.blk b E (cs.set off v)) l') (hf : off < cs.length) (hw : wantB ops ss o = some true) (hd : o.dst = none) (H : St n S w0 ss l a w)
    (K : ∀ w', St n S w0 ss l' a w' → wpList P ops Q rest a w') : wpList P ops Q (o :: rest) a w := by
  have hv : v.cells.toList = [v] := by cases v <;> first | rfl | simp [Value.oneCell'] at h1
  have hu' : Upd l (It.blk b E cs) (It.blk b E (spl cs off [v])) l' := by rw [spl_one _ _ _ hf]; exact hu
  exact st_store (vs := [v]) ho hz hx hy hv (by simp [h1]) rfl (l' := l') hu' (by omega) hw hd H K

/-! ### copy -/
theorem st_copyT {x y : Operand} {t u E F : TypeId} {b k len c d : Nat} {cs : List Value} {p : List UInt8} {l' : List It} (ho : o.op = .call { callee := .builtin .copy, args := #[x, y], argTypes := #[t, u] }) (ht : P.underlying t = some (.slice E)) (hz : sizeB P E = some 1)
    (hx : evO ss x = some (.slice (if len = k then some ⟨b, 0, none⟩ else (some (⟨b, 0, none⟩ : Addr)).map (·.add (k * 1))) (len - k) c)) (hy : evO ss y = some (str p)) 
    (hu : Upd l (It.blk b F cs) (It.blk b F (spl cs k (p.map u8))) l') (hle : k + p.length ≤ len) (hlen : cs.length = len) (hw : wantB ops ss o = some true) (hd : o.dst = some d) (hn : Nat.ble (d + 1) n = true) (H : St n S w0 ss l a w)
    (K : ∀ a' w', St n S w0 ((d, .int .i64 (p.length : Int)) :: ss) l' a' w' → wpList P ops Q rest a' w') : wpList P ops Q (o :: rest) a w := by
  have hm : It.blk b F cs ∈ l := by
    obtain ⟨r, h1, _⟩ := hu.perm
    exact h1.symm.subset (by simp)
  have hg := blk_at hm H.sep
  have hmin : Nat.min p.length (len - k) = p.length := Nat.min_eq_left (by omega)
  have hfc : (Builtin.firstCells 1 p.length (str p)).run P w = .ok (p.map u8).toArray w := by
    simp [Builtin.firstCells, ByteArray.extract_mk]
  have hst := run_storeCells_at (P := P) b k F (p.map u8) 0 cs.toArray w hg (by simpa [hlen] using hle) (by simp [Value.oneCell'])
  have hgen : ∀ ad : Addr, (if len = k then some ⟨b, 0, none⟩ else (some (⟨b, 0, none⟩ : Addr)).map (·.add (k * 1))) = some ad → (storeCells ad (p.map u8)).run P w = .ok () (w.setRow b (spl cs k (p.map u8)).toArray) := by
    intro ad e
    split at e
    · rename_i hlk
      have hp : p = [] := List.eq_nil_of_length_eq_zero (by omega)
      subst hp
      have : spl cs k [] = cs := by simp [spl]
      simp only [List.map_nil, storeCells, Sem.run_pure, this]
      rw [setRow_self w b cs.toArray F (0, 0) hg]
    · simp only [Option.map_some, Nat.mul_one, add_mk, Nat.zero_add, Option.some.injEq] at e
      subst e
      simpa [spl] using hst
  have hr : (execOp a.eval o).run P w = .ok (.value (.int .i64 (p.length : Int))) (w.setRow b (spl cs k (p.map u8)).toArray) := by
    have h0 := H.fr.ev hx
    have h1 : (Builtin.copy_ #[t, u] o.type #[.slice (if len = k then some ⟨b, 0, none⟩ else (some (⟨b, 0, none⟩ : Addr)).map (·.add (k * 1))) (len - k) c, str p]).run P w = .ok (.int .i64 (p.length : Int)) (w.setRow b (spl cs k (p.map u8)).toArray) := by
      cases hA : (if len = k then some ⟨b, 0, none⟩ else (some (⟨b, 0, none⟩ : Addr)).map (·.add (k * 1))) with
      | none => split at hA <;> simp at hA
      | some ad =>
        have h2 := hgen ad hA
        simp only [Builtin.copy_]
        simp [run_underlying ht, Builtin.lenOf, size_mk, hmin, run_sizeOf' hz, hfc, h2, goInt]
    revert h0 h1
    generalize (if len = k then some (⟨b, 0, none⟩ : Addr) else (some (⟨b, 0, none⟩ : Addr)).map (·.add (k * 1))) = A
    intro h0 h1
    simp [execOp, ho, resolve, invoke, builtin, h0, H.fr.ev hy, h1]
  exact does hw hd hn H hr (H.sep.upd hu (setRow_frm _) (setRow_heap _ _ _ _ _ _ hg) (by intro b' hb'; exact .inl hb')) (fun a' H' => K a' _ H')

/-! ### Calls -/
def evs (ss : List (Nat × Value)) : List Operand → Option (List Value)
  | [] => some []
  | x :: r => match evO ss x, evs ss r with
    | some v, some vs => some (v :: vs)
    | _, _ => none
theorem evs_map (F : Fr n ss a) : ∀ {r : List Operand} {vs : List Value}, evs ss r = some vs → r.map a.eval = vs
  | [], vs, h => by simpa [evs] using h
  | x :: r, vs, h => by
    simp only [evs] at h
    split at h
    · rename_i v us h1 h2
      have e : v :: us = vs := by simpa using h
      rw [← e, List.map_cons, F.ev h1, evs_map F h2]
    · simp at h

theorem run_call {f : FuncId} {xs : List Operand} {ts : Array TypeId} {args : List Value} (ho : o.op = .call { callee := .value (.func f), args := xs.toArray, argTypes := ts }) (hc : callB P f = true) (F : Fr n ss a) (ha : evs ss xs = some args) :
    (execOp a.eval o).run P w = .ok (.enter f args.toArray) w := by
  have h1 := evs_map F ha
  simp [execOp, ho, resolve, Act.eval, Deferred.ofValue, invoke, List.map_toArray, h1, run_callFunc hc]
theorem st_enter {d : Nat} {f : FuncId} {args : Array Value} {T : List Nat} {lT lr : List It} {Φ : Value → List It → Prop} (hr : (execOp a.eval o).run P w = .ok (.enter f args) w) (hw : wantB ops ss o = some true) (hd : o.dst = some d) (hn : Nat.ble (d + 1) n = true) (H : St n S w0 ss (lT ++ lr) a w)
    (hT : ∀ b ∈ T, ∃ i ∈ lT, b ∈ i.fp) (hk : Calls P f args w (Post T w Φ))
    (K : ∀ v l' a' w', Φ v l' → St n S w0 ((d, v) :: ss) (l' ++ lr) a' w' → wpList P ops Q rest a' w') : wpList P ops Q (o :: rest) a w := by
  unfold wpList
  rw [if_pos (wanted_of H.fr hw)]
  refine .inl ?_
  unfold Oper.wp
  rw [hr]
  show Calls P f args w _
  refine hk.mono ?_
  rintro e w' ⟨v, l', rfl, hΦ, hs⟩
  show wpList P ops Q rest (a.put o.dst v) w'
  rw [hd]
  exact K v l' _ w' hΦ ⟨H.fr.put (Nat.lt_of_succ_le (Nat.le_of_ble_eq_true hn)) v, H.sep.call hT hs⟩

theorem st_call {d : Nat} {f : FuncId} {xs : List Operand} {ts : Array TypeId} {args : List Value} {Φ : Value → List It → Prop} (ho : o.op = .call { callee := .value (.func f), args := xs.toArray, argTypes := ts }) (hc : callB P f = true) (ha : evs ss xs = some args)
    (hw : wantB ops ss o = some true) (hd : o.dst = some d) (hn : Nat.ble (d + 1) n = true) (H : St n S w0 ss l a w) (hk : Calls P f args.toArray w (Post [] w Φ))
    (K : ∀ v l' a' w', Φ v l' → St n S w0 ((d, v) :: ss) (l' ++ l) a' w' → wpList P ops Q rest a' w') : wpList P ops Q (o :: rest) a w :=
  st_enter (lT := []) (run_call ho hc H.fr ha) hw hd hn H (by simp) hk K
/-- .. of a function that hands back one value and no memory. -/
theorem st_callg {d : Nat} {f : FuncId} {xs : List Operand} {ts : Array TypeId} {args : List Value} {v : Value} (ho : o.op = .call { callee := .value (.func f), args := xs.toArray, argTypes := ts }) (hc : callB P f = true) (ha : evs ss xs = some args)
    (hw : wantB ops ss o = some true) (hd : o.dst = some d) (hn : Nat.ble (d + 1) n = true) (H : St n S w0 ss l a w) (hk : Calls P f args.toArray w (Gives v [] w))
    (K : ∀ a' w', St n S w0 ((d, v) :: ss) l a' w' → wpList P ops Q rest a' w') : wpList P ops Q (o :: rest) a w :=
  st_call ho hc ha hw hd hn H hk (fun u l' a' w' h H' => by obtain ⟨rfl, rfl⟩ := h; exact K a' w' H')

/-- In a region that draws: a call that hands back one value and no memory. -/
theorem qcallg {Qa : Act → Prop} {d : Nat} {f : FuncId} {xs : List Operand} {ts : Array TypeId} {args : List Value} {v : Value} (ho : o.op = .call { callee := .value (.func f), args := xs.toArray, argTypes := ts }) (hc : callB P f = true) (ha : evs ss xs = some args)
    (hw : wantB ops ss o = some true) (hd : o.dst = some d) (hn : Nat.ble (d + 1) n = true) (H : Fr n ss a) (hk : ∀ w, Sep S w0 w l → Calls P f args.toArray w (Gives v [] w))
    (K : ∀ a', Fr n ((d, v) :: ss) a' → wpQuiet P ops (fun w' => Sep S w0 w' l) Qa rest a') : wpQuiet P ops (fun w' => Sep S w0 w' l) Qa (o :: rest) a := by
  unfold wpQuiet
  rw [if_pos (wanted_of H hw)]
  refine ⟨v, fun w hs => ?_, ?_⟩
  · unfold Oper.quietAt
    rw [run_call ho hc H ha]
    refine ⟨rfl, (hk w hs).mono ?_⟩
    rintro e w' ⟨u, l', rfl, ⟨rfl, rfl⟩, hs'⟩
    exact ⟨rfl, by simpa using hs.call0 hs'⟩
  · rw [hd]
    exact K _ (H.put (Nat.lt_of_succ_le (Nat.le_of_ble_eq_true hn)) v)
end
end Go.Sx
