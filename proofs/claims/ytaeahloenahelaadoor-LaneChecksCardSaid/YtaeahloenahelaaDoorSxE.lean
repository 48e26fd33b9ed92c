/- Own words for walks: slices that grow, texts out of bytes and back. -/
import Derived.Test.YtaeahloenahelaaDoorSxD
import Derived.Laws.Append
import Derived.Lib.AppendStr
import Derived.Lib.ConvBytes
set_option linter.unusedVariables false
set_option linter.unusedSimpArgs false
namespace Go.Sx
open Go.RowKit Go.Lib

def free (cur : Array Value) (fz : Nat × Nat) : Prop := fz = (0, 0) ∨ cur.size ≤ fz.1

theorem run_storeFree {P : Program} (g o : Nat) (t : TypeId) (fz : Nat × Nat) : ∀ (vs : List Value) (i : Nat) (cur : Array Value) (w : World), w.heap[g]? = some (.cells cur t fz) → free cur fz → o + i + vs.length ≤ cur.size → (∀ v ∈ vs, v.oneCell' = true) →
    (storeCells ⟨g, o, none⟩ vs i).run P w = .ok () (w.setRow g (cur.toList.take (o + i) ++ vs ++ cur.toList.drop (o + i + vs.length)).toArray)
  | [], i, cur, w, hg, _, _, _ => by
    simp only [storeCells, List.append_nil, List.length_nil, Nat.add_zero, List.take_append_drop, Array.toArray_toList]
    rw [setRow_self w g cur t fz hg]
    rfl
  | v :: rest, i, cur, w, hg, hfz, hl, h1 => by
    have hi : o + i < cur.size := by simp at hl; omega
    have hadd : (⟨g, o, none⟩ : Addr).add i = ⟨g, o + i, none⟩ := add_mk _ _ _
    have hcell : w.cell? ⟨g, o + i, none⟩ = some cur[o + i] := by simp [World.cell?, hg, hi]
    have hfro : w.frozen? ⟨g, o + i, none⟩ = false := by
      obtain ⟨lo, hi'⟩ := fz
      simp only [World.frozen?, hg, Bool.and_eq_false_iff, decide_eq_false_iff_not]
      rcases hfz with h | h
      · injection h with h1 h2; subst h1 h2; right; omega
      · left; simp at h; omega
    have hst : (store ((⟨g, o, none⟩ : Addr).add i) v).run P w = .ok () (w.setRow g (cur.setIfInBounds (o + i) v)) := by
      rw [hadd, run_store P w _ v _ (h1 v (by simp)), hcell]
      simp [hfro, setCell_eq_setRow w g (o + i) cur t fz v hg]
    have ih := run_storeFree (P := P) g o t fz rest (i + 1) (cur.setIfInBounds (o + i) v) (w.setRow g (cur.setIfInBounds (o + i) v)) (setRow_heap w g cur _ t _ hg) (by simpa [free] using hfz) (by simp at hl ⊢; omega) (fun x hx => h1 x (by simp [hx]))
    simp only [storeCells, Sem.run_bind, hst, Result.andThen_ok, ih, setRow_setRow]
    congr 3
    have e := list_seg_step cur.toList (o + i) v rest (by simp at hl ⊢; omega)
    simpa [Array.toList_setIfInBounds, Nat.add_assoc] using e

/-- What append reads. -/
structure Src (P : Program) (w : World) (size : Nat) (v : Value) (m : Nat) (news : List Value) : Prop where
  len : ∀ w', (Builtin.lenOf v).run P w' = .ok m w'
  cells : ∀ w', w'.heap = w.heap → (Builtin.firstCells size m v).run P w' = .ok news.toArray w'
  size : news.length = m * size
  one : ∀ u ∈ news, u.oneCell' = true

theorem Rd.heap {w w' : World} {A : Option Addr} {cs : List Value} (h : Rd w A cs) (e : w'.heap = w.heap) : Rd w' A cs := by
  rcases h with rfl | ⟨ad, ea, h⟩
  · exact .inl rfl
  · exact .inr ⟨ad, ea, fun j v hv => by rw [← h j v hv]; simp [World.cell?, e]⟩
theorem Src.slice {P : Program} {w : World} {size m c : Nat} {A : Option Addr} {news : List Value} (h : Rd w A news) (hl : news.length = m * size) (h1 : ∀ u ∈ news, u.oneCell' = true) : Src P w size (.slice A m c) m news := by
  refine ⟨fun w' => by simp [Builtin.lenOf], fun w' e => ?_, hl, h1⟩
  cases A with
  | none =>
    rcases h with rfl | ⟨ad, ea, _⟩
    · simp [Builtin.firstCells]
    · cases ea
  | some ad =>
    have := (h.heap e).load (P := P)
    simpa [Builtin.firstCells, ← hl] using this
theorem Src.text {P : Program} {w : World} (p : List UInt8) : Src P w 1 (str p) p.length (p.map u8) := by
  refine ⟨fun w' => by simp [Builtin.lenOf, size_mk], fun w' e => ?_, by simp, by simp [u8, Value.oneCell']⟩
  have := run_firstCells_string (P := P) (w := w') 1 (⟨p.toArray⟩ : ByteArray)
  rw [size_mk] at this
  rw [this]
  simp [strCells]

theorem run_app {P : Program} {w : World} {t u ty e : TypeId} {i : TypeInfo} {z : Value} {d : TypeDesc} {size bytes n m : Nat} {v src : Value} {xs news : List Value}
    (ht : P.underlying t = some (.slice e)) (hu : P.underlying u = some d) (hd : d = .string ∨ ∃ e', d = .slice e') (hi : P.info? e = some i) (hz : i.zero = some z) (hs : i.size = size) (hb : i.bytes = bytes) (hzs : z.cells.size = size)
    (hsrc : Src P w size src m news) (hrow : Row e size v n xs w) (h63 : n + m ≤ maxLen) (hbytes : (n + m) * bytes ≤ 140737488355328) :
    ∃ v' w', (Builtin.append_ #[t, u] ty #[v, src]).run P w = .ok v' w' ∧ Row e size v' (n + m) (xs ++ news) w' ∧ Frm v.ownBlock.toList w w' ∧ (∀ b, v'.ownBlock = some b → v.ownBlock = some b ∨ w.heap.size ≤ b) ∧ (v' = .slice none 0 0 ↔ v = .slice none 0 0 ∧ m = 0) := by
  subst hs hb
  have hsmall : n + m ≤ 9223372036854775807 := by simp only [maxLen] at h63; omega
  have hlen : (xs ++ news).length = (n + m) * i.size := by rw [List.length_append, hrow.1, hsrc.size, Nat.add_mul]
  have hc0 := hsrc.cells w rfl
  have hc1 := hsrc.cells w.drew rfl
  have hl0 := hsrc.len w
  have grown : ∀ (old : Nat), old < n + m → ∀ S,
      Row e i.size (.slice (some ⟨w.heap.size, 0, none⟩) (n + m) (grownCap w (n + m) old e)) (n + m) (xs ++ news) (w.drew.alloc (.cells (xs.toArray ++ news.toArray ++ Builtin.zeroCells z.cells (grownCap w (n + m) old e - (n + m))) e)) ∧
      Frm S w (w.drew.alloc (.cells (xs.toArray ++ news.toArray ++ Builtin.zeroCells z.cells (grownCap w (n + m) old e - (n + m))) e)) := by
    intro old ho S
    have hge := grownCap_ge w (n + m) old e
    have hcm : grownCap w (n + m) old e ≤ maxLen := grownCap_le_maxLen w (n + m) old e h63
    refine ⟨⟨hlen, .inr ⟨w.heap.size, _, _, (0, 0), rfl, heap_alloc_new w.drew _, hge, hcm, ?_, ?_, .inl rfl⟩⟩, ⟨rfl, rfl, rfl, by simp, fun k hk _ => by show (w.heap.push _)[k]? = _; rw [Array.getElem?_push, if_neg (by omega)]⟩⟩
    · simp only [Array.size_append, List.size_toArray, size_zeroCells, hzs, hrow.1, hsrc.size, ← Nat.add_mul]
      congr 1
      omega
    · simp only [Array.toList_append, List.append_assoc]
      rw [← List.append_assoc, ← hlen]
      exact List.take_left
  rcases hrow.2 with ⟨rfl, rfl⟩ | ⟨g, cap, cur, fz, rfl, hg, hnc, hcm, hcs, htake, hfr⟩
  · have hx : xs = [] := List.eq_nil_of_length_eq_zero (by simpa using hrow.1)
    subst hx
    by_cases hm : m = 0
    · subst hm
      have hn : news = [] := List.eq_nil_of_length_eq_zero (by simpa using hsrc.size)
      subst hn
      refine ⟨.slice none 0 0, w, ?_, Row.nil _ _ _, Frm.refl _ _, by simp [Value.ownBlock], by simp⟩
      rcases hd with rfl | ⟨e', rfl⟩ <;> simp [Builtin.append_, run_underlying ht, run_underlying hu, sizeOf, typeInfo, hi, hl0, hc0]
    · have hgr := grown 0 (by omega) []
      have hfn : (Builtin.firstCells i.size 0 (.slice none 0 0)).run P w.drew = .ok #[] w.drew := by simp [Builtin.firstCells]
      have hfit := growslice_fits (old := 0) (need := 0 + m) (bytes := i.bytes) (by omega) hbytes
      have h1 : ¬ (9223372036854775807 < (m : Int)) := by omega
      have h2 : ¬ (281474976710656 < Builtin.nextslicecap m 0 * i.bytes) := by simp only [Nat.zero_add] at hfit; omega
      simp only [Nat.zero_add, List.nil_append] at hgr ⊢
      refine ⟨_, _, ?_, hgr.1, hgr.2, by simp [Value.ownBlock], by simp [hm]⟩
      rcases hd with rfl | ⟨e', rfl⟩ <;> simp [Builtin.append_, run_underlying ht, run_underlying hu, sizeOf, typeInfo, zeroValue, hi, hz, hl0, hc1, hm, h1, h2, Question.forced, newRow, grownCap, hfn]
  · by_cases hroom : n + m ≤ cap
    · have hfit : n * i.size + news.length ≤ cur.size := by rw [hsrc.size, hcs, ← Nat.add_mul]; exact Nat.mul_le_mul_right _ hroom
      have hst := run_storeFree (P := P) g (n * i.size) e fz news 0 cur w hg hfr (by simpa using hfit) hsrc.one
      simp only [Nat.add_zero] at hst
      refine ⟨.slice (some ⟨g, 0, none⟩) (n + m) cap, w.setRow g (cur.toList.take (n * i.size) ++ news ++ cur.toList.drop (n * i.size + news.length)).toArray, ?_, ⟨hlen, .inr ⟨g, cap, _, fz, rfl, setRow_heap w g cur _ e _ hg, hroom, hcm, ?_, ?_, ?_⟩⟩, by simpa [Value.ownBlock] using setRow_frm _, by simp [Value.ownBlock], by simp⟩
      · rcases hd with rfl | ⟨e', rfl⟩ <;> simp [Builtin.append_, run_underlying ht, run_underlying hu, sizeOf, typeInfo, hi, hl0, hroom, hc0, add_mk, hst]
      · simp only [List.size_toArray, List.length_append, List.length_take, List.length_drop, Array.length_toList]
        omega
      · rw [htake, ← hlen]
        exact List.take_left
      · rcases hfr with h | h
        · exact .inl h
        · refine .inr (Nat.le_trans (Nat.le_of_eq ?_) h)
          simp only [List.size_toArray, List.length_append, List.length_take, List.length_drop, Array.length_toList]
          omega
    · have hold : (Builtin.firstCells i.size n (.slice (some ⟨g, 0, none⟩) n cap)).run P w.drew = .ok xs.toArray w.drew := by
        have h := (Rd.blk (w := w.drew) (b := g) (c := cur) (E := e) (fz := fz) hg 0 (n * i.size)).load (P := P)
        simp only [List.drop_zero, htake] at h
        rw [hrow.1] at h
        simpa [Builtin.firstCells] using h
      have hgr := grown cap (by omega) (Value.ownBlock (.slice (some ⟨g, 0, none⟩) n cap)).toList
      have hfit := growslice_fits (old := cap) (need := n + m) (bytes := i.bytes) (by omega) hbytes
      have h1 : ¬ (9223372036854775807 < ((n : Int) + (m : Int))) := by omega
      have h2 : ¬ (281474976710656 < Builtin.nextslicecap (n + m) cap * i.bytes) := by omega
      refine ⟨_, _, ?_, hgr.1, hgr.2, by simp [Value.ownBlock], by simp⟩
      rcases hd with rfl | ⟨e', rfl⟩ <;> simp [Builtin.append_, run_underlying ht, run_underlying hu, sizeOf, typeInfo, zeroValue, hi, hz, hl0, hc1, hroom, h1, h2, Question.forced, newRow, grownCap, hold] <;> (congr 2; apply Array.ext'; simp [List.append_assoc])

/-- A closed fact on a slice type: its elements' type, cells, bytes. -/
def sliceB (P : Program) (t : TypeId) : Option (TypeId × Nat × Nat) :=
  match P.underlying t with
  | some (.slice e) => match P.info? e with
    | some i => match i.zero with
      | some z => if z.cells.size = i.size then some (e, i.size, i.bytes) else none
      | none => none
    | none => none
  | _ => none
def notIntB (P : Program) (t : TypeId) : Bool := match P.underlying t with | some (.slice _) => true | some .string => true | _ => false

section
variable {P : Program} {n : Nat} {S : List Nat} {w0 : World} {ss : List (Nat × Value)} {l : List It} {o : Oper}
variable {ops : Array Oper} {Q : Exit → Act → World → Prop} {rest : List Oper} {a : Act} {w : World}

theorem st_append {x y : Operand} {t u e : TypeId} {size bytes k m d : Nat} {v src : Value} {xs news : List Value} {lf : Value → List It} (ho : o.op = .call { callee := .builtin .append, args := #[x, y], argTypes := #[t, u] })
    (ht : sliceB P t = some (e, size, bytes)) (hu : notIntB P u = true) (hx : evO ss x = some v) (hy : evO ss y = some src) (hup : ∀ v', Upd l (It.row e size v k xs) (It.row e size v' (k + m) (xs ++ news)) (lf v')) (hsrc : ∀ w, Sep S w0 w l → Src P w size src m news)
    (h63 : k + m ≤ maxLen) (hbytes : (k + m) * bytes ≤ 140737488355328) (hw : wantB ops ss o = some true) (hd : o.dst = some d) (hn : Nat.ble (d + 1) n = true) (H : St n S w0 ss l a w)
    (K : ∀ v' a' w', (v' = .slice none 0 0 ↔ v = .slice none 0 0 ∧ m = 0) → St n S w0 ((d, v') :: ss) (lf v') a' w' → wpList P ops Q rest a' w') : wpList P ops Q (o :: rest) a w := by
  have hm : It.row e size v k xs ∈ l := by
    obtain ⟨r, h1, _⟩ := (hup v).perm
    exact h1.symm.subset (by simp)
  have hrow : Row e size v k xs w := H.sep.all _ hm
  unfold sliceB at ht
  split at ht
  · rename_i e1 ht1
    split at ht
    · rename_i i hi
      split at ht
      · rename_i z hz
        split at ht
        · rename_i hzs
          simp only [Option.some.injEq, Prod.mk.injEq] at ht
          obtain ⟨rfl, hs, hb⟩ := ht
          unfold notIntB at hu
          have hu1 : ∃ du, P.underlying u = some du ∧ (du = .string ∨ ∃ e', du = .slice e') := by
            split at hu
            · rename_i e' he'; exact ⟨_, he', .inr ⟨e', rfl⟩⟩
            · rename_i he'; exact ⟨_, he', .inl rfl⟩
            · simp at hu
          obtain ⟨du, hu1, hdu⟩ := hu1
          · obtain ⟨v', w', hr, hrow', hfrm, hown, hnil⟩ := run_app (ty := o.type) ht1 hu1 hdu hi hz hs hb (hzs.trans hs) (hsrc w H.sep) hrow h63 hbytes
            refine does (v := v') (w' := w') (l' := lf v') hw hd hn H ?_ (H.sep.upd (hup v') hfrm hrow' ?_) (fun a' H' => K v' a' w' hnil H')
            · simp [execOp, ho, resolve, invoke, builtin, H.fr.ev hx, H.fr.ev hy, hr]
            · intro b hb
              have : v'.ownBlock = some b := by simpa [It.row] using hb
              rcases hown b this with h | h
              · exact .inl (by simp [It.row, h])
              · exact .inr h
        · simp at ht
      · simp at ht
    · simp at ht
  · simp at ht

/-- The bytes of a slice as a text. -/
theorem bytesOf {p : List UInt8} : strOfNums (p.map fun b => (b.toNat : Int)) = ⟨p.toArray⟩ := by
  apply ByteArray.ext
  apply Array.ext'
  rw [strOfNums_data]
  simp [List.map_map, Function.comp_def]
theorem y_bstr {s t e : TypeId} {x : Operand} {A : Option Addr} {m c : Nat} {p : List UInt8} (ho : o.op = .convert s t x) (hs : P.underlying s = some (.slice e)) (he : P.underlying e = some (.int .u8)) (ht : P.underlying t = some .string) (hx : evO ss x = some (.slice A m c)) (hm : m = p.length) (hr : ∀ w, Sep S w0 w l → Rd w A (p.map u8)) : Yld P n S w0 ss l o (str p) := by
  intro a w F hsep
  subst hm
  have h1 : (convert s t (.slice A p.length c)).run P w = .ok (str p) w := by
    cases A with
    | none =>
      rcases hr w hsep with h | ⟨ad, ea, _⟩
      · have hp : p = [] := by simpa using h
        subst hp
        have h2 := run_convert_bytes_nil (P := P) (w := w) s e hs he 0 c t ht
        exact h2
      · cases ea
    | some ad =>
      have h2 := (hr w hsep).load (P := P)
      have h3 : (loadCells ad p.length).run P w = .ok ((p.map fun b => (b.toNat : Int)).map (Value.int .u8)).toArray w := by
        have e1 : (p.map fun b => (b.toNat : Int)).map (Value.int .u8) = p.map u8 := by simp [List.map_map, Function.comp_def]
        rw [e1]
        simpa using h2
      have h4 := run_bytesToString (P := P) w ad p.length c _ h3
      rw [run_convert_bytes_string w s t e (some ad) p.length c hs he ht]
      rw [h4, foldl_push_bytes]
      have h5 := bytesOf (p := p)
      unfold strOfNums at h5
      simp only [str]
      congr 2
      apply ByteArray.ext
      apply Array.ext'
      simp [List.map_map, Function.comp_def]
  simp [execOp, ho, F.ev hx, h1]

/-- A text as bytes, in new memory. -/
theorem st_strb {s t e : TypeId} {x : Operand} {d : Nat} {p : List UInt8} (ho : o.op = .convert s t x) (hs : P.underlying s = some .string) (ht : P.underlying t = some (.slice e)) (he : P.underlying e = some (.int .u8)) (hx : evO ss x = some (str p)) (hlen : p.length ≤ maxLen) (hw : wantB ops ss o = some true) (hd : o.dst = some d) (hn : Nat.ble (d + 1) n = true) (H : St n S w0 ss l a w)
    (K : ∀ v a' w', St n S w0 ((d, v) :: ss) (It.row e 1 v p.length (p.map u8) :: l) a' w' → wpList P ops Q rest a' w') : wpList P ops Q (o :: rest) a w := by
  have hr := Go.Lib.run_convert_string_bytes (P := P) w s t e (⟨p.toArray⟩ : ByteArray) hs ht he
  rw [size_mk] at hr
  refine does (v := .slice (some ⟨w.heap.size, 0, none⟩) p.length (grownCap w p.length 0 e)) (w' := bytesWorld w e ⟨p.toArray⟩) (l' := It.row e 1 (.slice (some ⟨w.heap.size, 0, none⟩) p.length (grownCap w p.length 0 e)) p.length (p.map u8) :: l) hw hd hn H ?_ (H.sep.add ⟨rfl, rfl, rfl, ?_, ?_⟩ ?_ ?_) (fun a' H' => K _ a' _ H')
  · simp [execOp, ho, H.fr.ev hx, hr]
  · rw [bytesWorld_size]; omega
  · exact fun k hk _ => bytesWorld_at_old w e _ k hk
  · have hge := grownCap_ge w p.length 0 e
    refine ⟨by simp, .inr ⟨w.heap.size, _, _, _, rfl, bytesWorld_at_new w e _, hge, grownCap_le_maxLen w _ _ _ hlen, ?_, ?_, .inr (Nat.le_refl _)⟩⟩
    · simp [bytesCells, size_mk]
      omega
    · simp [bytesCells, List.take_append, Function.comp_def]
  · simp [It.row, Value.ownBlock]
end
end Go.Sx
