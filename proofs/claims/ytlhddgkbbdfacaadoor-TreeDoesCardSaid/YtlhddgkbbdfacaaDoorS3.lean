/- Part of a proof about given Go functions: contracts of functions, or plain laws. -/
import Derived.Test.YtlhddgkbbdfacaaDoorS2
import Derived.Laws.Append
import Derived.Lib.AppendStr
import Derived.Lib.ConvBytes
import Derived.Laws.MakeOwn
import Derived.ProofKit
import Derived.OpenShut
import Derived.ShutString
import Derived.ChangeOld
import Derived.SizedLaws
import Derived.StillTail
import Derived.WalkSpells
/- Own words for walks: slices that grow, texts out of bytes and back. -/
set_option linter.unusedVariables false
set_option linter.unusedSimpArgs false
namespace Go.Sx
open Go.RowKit Go.Lib

def free (cur : Array Value) (fz : Nat × Nat) : Prop := fz = (0, 0) ∨ cur.size ≤ fz.1

theorem run_storeFree {P : Program} (g o : Nat) (t : TypeId) (fz : Nat × Nat) : ∀ (vs : List Value) (i : Nat) (cur : Array Value) (w : World), w.heap[g]? = some (.cells cur t fz) → free cur fz → o + i + vs.length ≤ cur.size → (∀ v ∈ vs, v.oneCell' = true) →
    (storeCells ⟨g, o, none⟩ vs i).run P w = .ok () (w.setRow g (cur.toList.take (o + i) ++ vs ++ cur.toList.drop (o + i + vs.length)).toArray)
  | [], i, cur, w, hg, _, _, _ => by
    simp only [storeCells, List.append_nil, List.length_nil, Nat.add_zero, List.take_append_drop, Array.toArray_toList]
    rw [setRow_self w g cur t fz hg]
    rfl
  | v :: rest, i, cur, w, hg, hfz, hl, h1 => by
    have hi : o + i < cur.size := by simp at hl; omega
    have hadd : (⟨g, o, none⟩ : Addr).add i = ⟨g, o + i, none⟩ := add_mk _ _ _
    have hcell : w.cell? ⟨g, o + i, none⟩ = some cur[o + i] := by simp [World.cell?, hg, hi]
    have hfro : w.frozen? ⟨g, o + i, none⟩ = false := by
      obtain ⟨lo, hi'⟩ := fz
      simp only [World.frozen?, hg, Bool.and_eq_false_iff, decide_eq_false_iff_not]
      rcases hfz with h | h
      · injection h with h1 h2; subst h1 h2; right; omega
      · left; simp at h; omega
    have hst : (store ((⟨g, o, none⟩ : Addr).add i) v).run P w = .ok () (w.setRow g (cur.setIfInBounds (o + i) v)) := by
      rw [hadd, run_store P w _ v _ (h1 v (by simp)), hcell]
      simp [hfro, setCell_eq_setRow w g (o + i) cur t fz v hg]
    have ih := run_storeFree (P := P) g o t fz rest (i + 1) (cur.setIfInBounds (o + i) v) (w.setRow g (cur.setIfInBounds (o + i) v)) (setRow_heap w g cur _ t _ hg) (by simpa [free] using hfz) (by simp at hl ⊢; omega) (fun x hx => h1 x (by simp [hx]))
    simp only [storeCells, Sem.run_bind, hst, Result.andThen_ok, ih, setRow_setRow]
    congr 3
    have e := list_seg_step cur.toList (o + i) v rest (by simp at hl ⊢; omega)
    simpa [Array.toList_setIfInBounds, Nat.add_assoc] using e

/-- What append reads. -/
structure Src (P : Program) (w : World) (size : Nat) (v : Value) (m : Nat) (news : List Value) : Prop where
  len : ∀ w', (Builtin.lenOf v).run P w' = .ok m w'
  cells : ∀ w', w'.heap = w.heap → (Builtin.firstCells size m v).run P w' = .ok news.toArray w'
  size : news.length = m * size
  one : ∀ u ∈ news, u.oneCell' = true

theorem Rd.heap {w w' : World} {A : Option Addr} {cs : List Value} (h : Rd w A cs) (e : w'.heap = w.heap) : Rd w' A cs := by
  rcases h with rfl | ⟨ad, ea, h⟩
  · exact .inl rfl
  · exact .inr ⟨ad, ea, fun j v hv => by rw [← h j v hv]; simp [World.cell?, e]⟩
theorem Src.slice {P : Program} {w : World} {size m c : Nat} {A : Option Addr} {news : List Value} (h : Rd w A news) (hl : news.length = m * size) (h1 : ∀ u ∈ news, u.oneCell' = true) : Src P w size (.slice A m c) m news := by
  refine ⟨fun w' => by simp [Builtin.lenOf], fun w' e => ?_, hl, h1⟩
  cases A with
  | none =>
    rcases h with rfl | ⟨ad, ea, _⟩
    · simp [Builtin.firstCells]
    · cases ea
  | some ad =>
    have := (h.heap e).load (P := P)
    simpa [Builtin.firstCells, ← hl] using this
theorem Src.text {P : Program} {w : World} (p : List UInt8) : Src P w 1 (str p) p.length (p.map u8) := by
  refine ⟨fun w' => by simp [Builtin.lenOf, size_mk], fun w' e => ?_, by simp, by simp [u8, Value.oneCell']⟩
  have := run_firstCells_string (P := P) (w := w') 1 (⟨p.toArray⟩ : ByteArray)
  rw [size_mk] at this
  rw [this]
  simp [strCells]

theorem run_app {P : Program} {w : World} {t u ty e : TypeId} {i : TypeInfo} {z : Value} {d : TypeDesc} {size bytes n m : Nat} {v src : Value} {xs news : List Value}
    (ht : P.underlying t = some (.slice e)) (hu : P.underlying u = some d) (hd : d = .string ∨ ∃ e', d = .slice e') (hi : P.info? e = some i) (hz : i.zero = some z) (hs : i.size = size) (hb : i.bytes = bytes) (hzs : z.cells.size = size)
    (hsrc : Src P w size src m news) (hrow : Row e size v n xs w) (h63 : n + m ≤ maxLen) (hbytes : (n + m) * bytes ≤ 140737488355328) :
    ∃ v' w', (Builtin.append_ #[t, u] ty #[v, src]).run P w = .ok v' w' ∧ Row e size v' (n + m) (xs ++ news) w' ∧ Frm v.ownBlock.toList w w' ∧ (∀ b, v'.ownBlock = some b → v.ownBlock = some b ∨ w.heap.size ≤ b) ∧ (v' = .slice none 0 0 ↔ v = .slice none 0 0 ∧ m = 0) := by
  subst hs hb
  have hsmall : n + m ≤ 9223372036854775807 := by simp only [maxLen] at h63; omega
  have hlen : (xs ++ news).length = (n + m) * i.size := by rw [List.length_append, hrow.1, hsrc.size, Nat.add_mul]
  have hc0 := hsrc.cells w rfl
  have hc1 := hsrc.cells w.drew rfl
  have hl0 := hsrc.len w
  have grown : ∀ (old : Nat), old < n + m → ∀ S,
      Row e i.size (.slice (some ⟨w.heap.size, 0, none⟩) (n + m) (grownCap w (n + m) old e)) (n + m) (xs ++ news) (w.drew.alloc (.cells (xs.toArray ++ news.toArray ++ Builtin.zeroCells z.cells (grownCap w (n + m) old e - (n + m))) e)) ∧
      Frm S w (w.drew.alloc (.cells (xs.toArray ++ news.toArray ++ Builtin.zeroCells z.cells (grownCap w (n + m) old e - (n + m))) e)) := by
    intro old ho S
    have hge := grownCap_ge w (n + m) old e
    have hcm : grownCap w (n + m) old e ≤ maxLen := grownCap_le_maxLen w (n + m) old e h63
    refine ⟨⟨hlen, .inr ⟨w.heap.size, _, _, (0, 0), rfl, heap_alloc_new w.drew _, hge, hcm, ?_, ?_, .inl rfl⟩⟩, ⟨rfl, rfl, rfl, by simp, fun k hk _ => by show (w.heap.push _)[k]? = _; rw [Array.getElem?_push, if_neg (by omega)]⟩⟩
    · simp only [Array.size_append, List.size_toArray, size_zeroCells, hzs, hrow.1, hsrc.size, ← Nat.add_mul]
      congr 1
      omega
    · simp only [Array.toList_append, List.append_assoc]
      rw [← List.append_assoc, ← hlen]
      exact List.take_left
  rcases hrow.2 with ⟨rfl, rfl⟩ | ⟨g, cap, cur, fz, rfl, hg, hnc, hcm, hcs, htake, hfr⟩
  · have hx : xs = [] := List.eq_nil_of_length_eq_zero (by simpa using hrow.1)
    subst hx
    by_cases hm : m = 0
    · subst hm
      have hn : news = [] := List.eq_nil_of_length_eq_zero (by simpa using hsrc.size)
      subst hn
      refine ⟨.slice none 0 0, w, ?_, Row.nil _ _ _, Frm.refl _ _, by simp [Value.ownBlock], by simp⟩
      rcases hd with rfl | ⟨e', rfl⟩ <;> simp [Builtin.append_, run_underlying ht, run_underlying hu, sizeOf, typeInfo, hi, hl0, hc0]
    · have hgr := grown 0 (by omega) []
      have hfn : (Builtin.firstCells i.size 0 (.slice none 0 0)).run P w.drew = .ok #[] w.drew := by simp [Builtin.firstCells]
      have hfit := growslice_fits (old := 0) (need := 0 + m) (bytes := i.bytes) (by omega) hbytes
      have h1 : ¬ (9223372036854775807 < (m : Int)) := by omega
      have h2 : ¬ (281474976710656 < Builtin.nextslicecap m 0 * i.bytes) := by simp only [Nat.zero_add] at hfit; omega
      simp only [Nat.zero_add, List.nil_append] at hgr ⊢
      refine ⟨_, _, ?_, hgr.1, hgr.2, by simp [Value.ownBlock], by simp [hm]⟩
      rcases hd with rfl | ⟨e', rfl⟩ <;> simp [Builtin.append_, run_underlying ht, run_underlying hu, sizeOf, typeInfo, zeroValue, hi, hz, hl0, hc1, hm, h1, h2, Question.forced, newRow, grownCap, hfn]
  · by_cases hroom : n + m ≤ cap
    · have hfit : n * i.size + news.length ≤ cur.size := by rw [hsrc.size, hcs, ← Nat.add_mul]; exact Nat.mul_le_mul_right _ hroom
      have hst := run_storeFree (P := P) g (n * i.size) e fz news 0 cur w hg hfr (by simpa using hfit) hsrc.one
      simp only [Nat.add_zero] at hst
      refine ⟨.slice (some ⟨g, 0, none⟩) (n + m) cap, w.setRow g (cur.toList.take (n * i.size) ++ news ++ cur.toList.drop (n * i.size + news.length)).toArray, ?_, ⟨hlen, .inr ⟨g, cap, _, fz, rfl, setRow_heap w g cur _ e _ hg, hroom, hcm, ?_, ?_, ?_⟩⟩, by simpa [Value.ownBlock] using setRow_frm _, by simp [Value.ownBlock], by simp⟩
      · rcases hd with rfl | ⟨e', rfl⟩ <;> simp [Builtin.append_, run_underlying ht, run_underlying hu, sizeOf, typeInfo, hi, hl0, hroom, hc0, add_mk, hst]
      · simp only [List.size_toArray, List.length_append, List.length_take, List.length_drop, Array.length_toList]
        omega
      · rw [htake, ← hlen]
        exact List.take_left
      · rcases hfr with h | h
        · exact .inl h
        · refine .inr (Nat.le_trans (Nat.le_of_eq ?_) h)
          simp only [List.size_toArray, List.length_append, List.length_take, List.length_drop, Array.length_toList]
          omega
    · have hold : (Builtin.firstCells i.size n (.slice (some ⟨g, 0, none⟩) n cap)).run P w.drew = .ok xs.toArray w.drew := by
        have h := (Rd.blk (w := w.drew) (b := g) (c := cur) (E := e) (fz := fz) hg 0 (n * i.size)).load (P := P)
        simp only [List.drop_zero, htake] at h
        rw [hrow.1] at h
        simpa [Builtin.firstCells] using h
      have hgr := grown cap (by omega) (Value.ownBlock (.slice (some ⟨g, 0, none⟩) n cap)).toList
      have hfit := growslice_fits (old := cap) (need := n + m) (bytes := i.bytes) (by omega) hbytes
      have h1 : ¬ (9223372036854775807 < ((n : Int) + (m : Int))) := by omega
      have h2 : ¬ (281474976710656 < Builtin.nextslicecap (n + m) cap * i.bytes) := by omega
      refine ⟨_, _, ?_, hgr.1, hgr.2, by simp [Value.ownBlock], by simp⟩
      rcases hd with rfl | ⟨e', rfl⟩ <;> simp [Builtin.append_, run_underlying ht, run_underlying hu, sizeOf, typeInfo, zeroValue, hi, hz, hl0, hc1, hroom, h1, h2, Question.forced, newRow, grownCap, hold] <;> (congr 2; apply Array.ext'; simp [List.append_assoc])

/-- A closed fact on a slice type: its elements' type, cells, bytes. -/
def sliceB (P : Program) (t : TypeId) : Option (TypeId × Nat × Nat) :=
  match P.underlying t with
  | some (.slice e) => match P.info? e with
    | some i => match i.zero with
      | some z => if z.cells.size = i.size then some (e, i.size, i.bytes) else none
      | none => none
    | none => none
  | _ => none
def notIntB (P : Program) (t : TypeId) : Bool := match P.underlying t with | some (.slice _) => true | some .string => true | _ => false

section
variable {P : Program} {n : Nat} {S : List Nat} {w0 : World} {ss : List (Nat × Value)} {l : List It} {o : Oper}
variable {ops : Array Oper} {Q : Exit → Act → World → Prop} {rest : List Oper} {a : Act} {w : World}

theorem st_append {x y : Operand} {t u e : TypeId} {size bytes k m d : Nat} {v src : Value} {xs news : List Value} {lf : Value → List It} (ho : o.op = .call { callee := .builtin .append, args := #[x, y], argTypes := #[t, u] })
    (ht : sliceB P t = some (e, size, bytes)) (hu : notIntB P u = true) (hx : evO ss x = some v) (hy : evO ss y = some src) (hup : ∀ v', Upd l (It.row e size v k xs) (It.row e size v' (k + m) (xs ++ news)) (lf v')) (hsrc : ∀ w, Sep S w0 w l → Src P w size src m news)
    (h63 : k + m ≤ maxLen) (hbytes : (k + m) * bytes ≤ 140737488355328) (hw : wantB ops ss o = some true) (hd : o.dst = some d) (hn : Nat.ble (d + 1) n = true) (H : St n S w0 ss l a w)
    (K : ∀ v' a' w', (v' = .slice none 0 0 ↔ v = .slice none 0 0 ∧ m = 0) → St n S w0 ((d, v') :: ss) (lf v') a' w' → wpList P ops Q rest a' w') : wpList P ops Q (o :: rest) a w := by
  have hm : It.row e size v k xs ∈ l := by
    obtain ⟨r, h1, _⟩ := (hup v).perm
    exact h1.symm.subset (by simp)
  have hrow : Row e size v k xs w := H.sep.all _ hm
  unfold sliceB at ht
  split at ht
  · rename_i e1 ht1
    split at ht
    · rename_i i hi
      split at ht
      · rename_i z hz
        split at ht
        · rename_i hzs
          simp only [Option.some.injEq, Prod.mk.injEq] at ht
          obtain ⟨rfl, hs, hb⟩ := ht
          unfold notIntB at hu
          have hu1 : ∃ du, P.underlying u = some du ∧ (du = .string ∨ ∃ e', du = .slice e') := by
            split at hu
            · rename_i e' he'; exact ⟨_, he', .inr ⟨e', rfl⟩⟩
            · rename_i he'; exact ⟨_, he', .inl rfl⟩
            · simp at hu
          obtain ⟨du, hu1, hdu⟩ := hu1
          · obtain ⟨v', w', hr, hrow', hfrm, hown, hnil⟩ := run_app (ty := o.type) ht1 hu1 hdu hi hz hs hb (hzs.trans hs) (hsrc w H.sep) hrow h63 hbytes
            refine does (v := v') (w' := w') (l' := lf v') hw hd hn H ?_ (H.sep.upd (hup v') hfrm hrow' ?_) (fun a' H' => K v' a' w' hnil H')
            · simp [execOp, ho, resolve, invoke, builtin, H.fr.ev hx, H.fr.ev hy, hr]
            · intro b hb
              have : v'.ownBlock = some b := by simpa [It.row] using hb
              rcases hown b this with h | h
              · exact .inl (by simp [It.row, h])
              · exact .inr h
        · simp at ht
      · simp at ht
    · simp at ht
  · simp at ht

/-- The bytes of a slice as a text. -/
theorem bytesOf {p : List UInt8} : strOfNums (p.map fun b => (b.toNat : Int)) = ⟨p.toArray⟩ := by
  apply ByteArray.ext
  apply Array.ext'
  rw [strOfNums_data]
  simp [List.map_map, Function.comp_def]
theorem y_bstr {s t e : TypeId} {x : Operand} {A : Option Addr} {m c : Nat} {p : List UInt8} (ho : o.op = .convert s t x) (hs : P.underlying s = some (.slice e)) (he : P.underlying e = some (.int .u8)) (ht : P.underlying t = some .string) (hx : evO ss x = some (.slice A m c)) (hm : m = p.length) (hr : ∀ w, Sep S w0 w l → Rd w A (p.map u8)) : Yld P n S w0 ss l o (str p) := by
  intro a w F hsep
  subst hm
  have h1 : (convert s t (.slice A p.length c)).run P w = .ok (str p) w := by
    cases A with
    | none =>
      rcases hr w hsep with h | ⟨ad, ea, _⟩
      · have hp : p = [] := by simpa using h
        subst hp
        have h2 := run_convert_bytes_nil (P := P) (w := w) s e hs he 0 c t ht
        exact h2
      · cases ea
    | some ad =>
      have h2 := (hr w hsep).load (P := P)
      have h3 : (loadCells ad p.length).run P w = .ok ((p.map fun b => (b.toNat : Int)).map (Value.int .u8)).toArray w := by
        have e1 : (p.map fun b => (b.toNat : Int)).map (Value.int .u8) = p.map u8 := by simp [List.map_map, Function.comp_def]
        rw [e1]
        simpa using h2
      have h4 := run_bytesToString (P := P) w ad p.length c _ h3
      rw [run_convert_bytes_string w s t e (some ad) p.length c hs he ht]
      rw [h4, foldl_push_bytes]
      have h5 := bytesOf (p := p)
      unfold strOfNums at h5
      simp only [str]
      congr 2
      apply ByteArray.ext
      apply Array.ext'
      simp [List.map_map, Function.comp_def]
  simp [execOp, ho, F.ev hx, h1]

/-- A text as bytes, in new memory. -/
theorem st_strb {s t e : TypeId} {x : Operand} {d : Nat} {p : List UInt8} (ho : o.op = .convert s t x) (hs : P.underlying s = some .string) (ht : P.underlying t = some (.slice e)) (he : P.underlying e = some (.int .u8)) (hx : evO ss x = some (str p)) (hlen : p.length ≤ maxLen) (hw : wantB ops ss o = some true) (hd : o.dst = some d) (hn : Nat.ble (d + 1) n = true) (H : St n S w0 ss l a w)
    (K : ∀ v a' w', St n S w0 ((d, v) :: ss) (It.row e 1 v p.length (p.map u8) :: l) a' w' → wpList P ops Q rest a' w') : wpList P ops Q (o :: rest) a w := by
  have hr := Go.Lib.run_convert_string_bytes (P := P) w s t e (⟨p.toArray⟩ : ByteArray) hs ht he
  rw [size_mk] at hr
  refine does (v := .slice (some ⟨w.heap.size, 0, none⟩) p.length (grownCap w p.length 0 e)) (w' := bytesWorld w e ⟨p.toArray⟩) (l' := It.row e 1 (.slice (some ⟨w.heap.size, 0, none⟩) p.length (grownCap w p.length 0 e)) p.length (p.map u8) :: l) hw hd hn H ?_ (H.sep.add ⟨rfl, rfl, rfl, ?_, ?_⟩ ?_ ?_) (fun a' H' => K _ a' _ H')
  · simp [execOp, ho, H.fr.ev hx, hr]
  · rw [bytesWorld_size]; omega
  · exact fun k hk _ => bytesWorld_at_old w e _ k hk
  · have hge := grownCap_ge w p.length 0 e
    refine ⟨by simp, .inr ⟨w.heap.size, _, _, _, rfl, bytesWorld_at_new w e _, hge, grownCap_le_maxLen w _ _ _ hlen, ?_, ?_, .inr (Nat.le_refl _)⟩⟩
    · simp [bytesCells, size_mk]
      omega
    · simp [bytesCells, List.take_append, Function.comp_def]
  · simp [It.row, Value.ownBlock]
end
end Go.Sx

/- Own words for walks: literals, make, copy. -/
set_option linter.unusedVariables false
set_option linter.unusedSimpArgs false
namespace Go.Sx
open Go.RowKit Go.Lib

/-! ### Literals -/
def evps (ss : List (Nat × Value)) : List (Nat × Operand) → Option (List (Nat × Value))
  | [] => some []
  | (i, x) :: r => match evO ss x, evps ss r with
    | some v, some vs => some ((i, v) :: vs)
    | _, _ => none
theorem evps_map {n : Nat} {ss : List (Nat × Value)} {a : Act} (F : Fr n ss a) : ∀ {r : List (Nat × Operand)} {vs : List (Nat × Value)}, evps ss r = some vs → r.map (fun p => (p.1, a.eval p.2)) = vs
  | [], vs, h => by simpa [evps] using h
  | (i, x) :: r, vs, h => by
    simp only [evps] at h
    split at h
    · rename_i v us h1 h2
      have e : (i, v) :: us = vs := by simpa using h
      rw [← e, List.map_cons, F.ev h1, evps_map F h2]
    · simp at h

/-- A part laid over cells. -/
def lay (place : Nat → Option (Nat × Nat)) (cs : List Value) : List (Nat × Value) → Option (List Value)
  | [] => some cs
  | (i, v) :: rest =>
    match place i with
    | none => none
    | some (off, size) => if v.cells.toList.length ≠ size ∨ cs.length < off + size then none else lay place (spl cs off v.cells.toList) rest

theorem foldl_set (off : Nat) : ∀ (vs : List Value) (k : Nat) (cs : Array Value), off + k + vs.length ≤ cs.size →
    ((vs.zipIdx k).foldl (fun (cs : Array Value) (p : Value × Nat) => cs.setIfInBounds (off + p.2) p.1) cs).toList = cs.toList.take (off + k) ++ vs ++ cs.toList.drop (off + k + vs.length)
  | [], k, cs, _ => by simp
  | v :: r, k, cs, h => by
    rw [List.zipIdx_cons, List.foldl_cons]
    have h' : off + (k + 1) + r.length ≤ (cs.setIfInBounds (off + k) v).size := by simp at h ⊢; omega
    rw [foldl_set off r (k + 1) _ h']
    have e := list_seg_step cs.toList (off + k) v r (by simp at h ⊢; omega)
    simpa [Array.toList_setIfInBounds, Nat.add_assoc] using e

theorem fill_lay (place : Nat → Option (Nat × Nat)) : ∀ (vs : List (Nat × Value)) (cs : Array Value) (ds : List Value), lay place cs.toList vs = some ds → Instr.fill place cs vs = some ds.toArray
  | [], cs, ds, h => by
    simp only [lay, Option.some.injEq] at h
    simp [Instr.fill, ← h]
  | (i, v) :: rest, cs, ds, h => by
    simp only [lay] at h
    simp only [Instr.fill]
    split at h
    · simp at h
    · rename_i off size hp
      split at h
      · simp at h
      · rename_i hc
        have h1 : v.cells.size = size := by
          have := fun e => hc (.inl e)
          simpa using this
        have h2 : off + size ≤ cs.size := by
          have := fun e => hc (.inr e)
          simp at this
          omega
        rw [hp]
        simp only
        have hn : (decide (v.cells.size ≠ size) || decide (off + v.cells.size > cs.size)) = false := by simp [h1]; omega
        rw [if_neg (by simp only [hn]; simp)]
        refine fill_lay place rest _ ds ?_
        rw [← h]
        congr 1
        have e := foldl_set off v.cells.toList 0 cs (by simp [h1]; omega)
        have e2 : (Array.foldl (fun cs (x : Value × Nat) => cs.setIfInBounds (off + x.2) x.1) cs v.cells.zipIdx) = (v.cells.toList.zipIdx 0).foldl (fun (cs : Array Value) (p : Value × Nat) => cs.setIfInBounds (off + p.2) p.1) cs := by
          rw [← Array.foldl_toList]
          simp
        rw [e2, e]
        simp [spl]

/-- Where the parts of a struct or an array lie. -/
def placesB (P : Program) (t : TypeId) : Option (List (Nat × Nat)) :=
  match P.underlying t with
  | some (.struct fs) => fs.toList.mapM fun f => (sizeB P f.type).map fun z => (f.offset, z)
  | _ => none

section
variable {P : Program} {n : Nat} {S : List Nat} {w0 : World} {ss : List (Nat × Value)} {l : List It} {o : Oper}
variable {ops : Array Oper} {Q : Exit → Act → World → Prop} {rest : List Oper} {a : Act} {w : World}

theorem mapM_run {α β : Type} (f : α → Sem β) (g : α → Option β) : ∀ (xs : List α) (ys : List β), (∀ x y, g x = some y → (f x).run P w = .ok y w) → xs.mapM g = some ys → (xs.mapM f).run P w = .ok ys w
  | [], ys, _, h => by simp at h; subst h; simp
  | x :: xs, ys, hf, h => by
    rw [List.mapM_cons] at h
    cases hx : g x with
    | none => simp [hx] at h
    | some y =>
      cases hr : xs.mapM g with
      | none => simp [hx, hr] at h
      | some zs =>
        simp [hx, hr] at h
        subst h
        rw [List.mapM_cons]
        simp [hf x y hx, mapM_run f g xs zs hf hr]

theorem y_build {t : TypeId} {parts : List (Nat × Operand)} {vs : List (Nat × Value)} {zs cs : List Value} {pl : List (Nat × Nat)} (ho : o.op = .build t parts.toArray) (hz : zeroL P t = some zs) (hp : placesB P t = some pl) (ha : evps ss parts = some vs) (hc : lay (fun i => pl[i]?) zs vs = some cs) : Yld P n S w0 ss l o (.agg cs.toArray) := by
  intro a w F _
  have h1 := evps_map F ha
  obtain ⟨z, hz1, hz2⟩ := run_zero (w := w) hz
  unfold placesB at hp
  split at hp
  · rename_i fs ht
    have h2 : (fs.toList.mapM fun f => (do pure (f.offset, ← sizeOf f.type) : Sem (Nat × Nat))).run P w = .ok pl w := by
      refine mapM_run _ _ _ _ (fun f y hy => ?_) hp
      cases hs : sizeB P f.type with
      | none => simp [hs] at hy
      | some z =>
        have : (f.offset, z) = y := by simpa [hs] using hy
        subst this
        simp [run_sizeOf' hs]
    have h3 : (fs.mapM fun f => (do pure (f.offset, ← sizeOf f.type) : Sem (Nat × Nat))).run P w = .ok pl.toArray w := by
      rw [Array.mapM_eq_mapM_toList]
      simp only [Sem.run_map, h2, Result.andThen_ok]
    simp only [bind_pure_comp] at h3
    have h4 := fill_lay (fun i => pl[i]?) vs z.cells cs (by rw [hz2]; exact hc)
    have h5 : (fun i : Nat => pl.toArray[i]?) = fun i : Nat => pl[i]? := by funext i; simp
    simp [execOp, ho, Instr.build, hz1, run_underlying ht, h3, List.map_toArray, h1, h5, h4]
  · simp at hp

theorem y_buildA {t e : TypeId} {len z : Nat} {parts : List (Nat × Operand)} {vs : List (Nat × Value)} {zs cs : List Value} (ho : o.op = .build t parts.toArray) (hz : zeroL P t = some zs) (ht : P.underlying t = some (.array len e)) (he : sizeB P e = some z) (ha : evps ss parts = some vs) (hc : lay (fun i => some (i * z, z)) zs vs = some cs) : Yld P n S w0 ss l o (.agg cs.toArray) := by
  intro a w F _
  have h1 := evps_map F ha
  obtain ⟨zz, hz1, hz2⟩ := run_zero (w := w) hz
  have h4 := fill_lay (fun i => some (i * z, z)) vs zz.cells cs (by rw [hz2]; exact hc)
  simp [execOp, ho, Instr.build, hz1, run_underlying ht, run_sizeOf' he, List.map_toArray, h1, h4]

/-- A slice literal, or the list of a variadic call: a block of its own. -/
theorem st_buildSlice {t e : TypeId} {len z d : Nat} {parts : List (Nat × Operand)} {vs : List (Nat × Value)} {zs cs : List Value} (ho : o.op = .buildSlice t len parts.toArray) (ht : P.underlying t = some (.slice e)) (hz : sizeB P e = some z) (hzs : zeroL P e = some zs) (hlz : zs.length = z) (hsm : Nat.ble (len * z) 16777216 = true)
    (ha : evps ss parts = some vs) (hc : lay (fun i => some (i * z, z)) ((List.range (len * z)).map (fun i => zs.getD (i % z) undef)) vs = some cs) (hw : wantB ops ss o = some true) (hd : o.dst = some d) (hn : Nat.ble (d + 1) n = true) (H : St n S w0 ss l a w)
    (K : ∀ b a' w', St n S w0 ((d, .slice (some ⟨b, 0, none⟩) len len) :: ss) (It.blk b e cs :: l) a' w' → wpList P ops Q rest a' w') : wpList P ops Q (o :: rest) a w := by
  have h1 := evps_map H.fr ha
  obtain ⟨zz, hz1, hz2⟩ := run_zero (w := w) hzs
  have hsm' : ¬ (16777216 < len * z) := by have := Nat.le_of_ble_eq_true hsm; omega
  have hzz : zz.cells.size = z := by rw [← hlz, ← hz2]; simp
  have h4 : ∀ c : Array Value, c.toList = (List.range (len * z)).map (fun i => zs.getD (i % z) undef) → Instr.fill (fun i => some (i * z, z)) c vs = some cs.toArray := fun c hcc => fill_lay _ vs c cs (by rw [hcc]; exact hc)
  have hr : (execOp a.eval o).run P w = .ok (.value (.slice (some ⟨w.heap.size, 0, none⟩) len len)) (w.alloc (.cells cs.toArray e)) := by
    rcases Nat.eq_zero_or_pos (len * z) with h0 | h0
    · have h5 := h4 #[] (by simp [h0])
      have h6 : ∀ f : Nat → Value, (Array.range 0).map f = #[] := fun f => by simp
      simp [execOp, ho, Instr.buildSlice, run_underlying ht, run_sizeOf' hz, h0, List.map_toArray, h1, h6, h5, newRow, newObj, Sem.run]
    · have h0' : ¬ (len * z = 0) := by omega
      have h5 := h4 ((Array.range (len * z)).map (zz.cells[· % zz.cells.size]!)) (by
        simp only [Array.toList_map, Array.toList_range]
        refine List.map_congr_left fun i _ => ?_
        have hlt : i % z < zz.cells.size := by rw [hzz]; exact Nat.mod_lt _ (Nat.pos_of_mul_pos_left h0 |> fun _ => by rcases Nat.eq_zero_or_pos z with hz0 | hz0; subst hz0; simp at h0; exact hz0)
        rw [hzz, ← hz2]
        simp [hlt])
      simp [execOp, ho, Instr.buildSlice, run_underlying ht, run_sizeOf' hz, hsm', h0', hz1, List.map_toArray, h1, h5, newRow, newObj, Sem.run]
  refine does hw hd hn H hr (H.sep.alloc _) (fun a' H' => K w.heap.size a' _ H')

theorem lay_one : ∀ (vs : List Value) (k : Nat) (pre : List Value), pre.length = k → vs.all (·.oneCell') = true → ∀ (zs : List Value), zs.length = vs.length →
    lay (fun i => some (i * 1, 1)) (pre ++ zs) ((List.range' k vs.length).zip vs) = some (pre ++ vs)
  | [], k, pre, hk, _, zs, hz => by simp at hz; subst hz; simp [lay]
  | v :: vs, k, pre, hk, h1, zs, hz => by
    match zs, hz with
    | z :: zs, hz =>
      simp only [List.all_cons, Bool.and_eq_true] at h1
      have hv : v.cells.toList = [v] := by cases v <;> first | rfl | simp [Value.oneCell'] at h1
      simp only [List.length_cons, List.range'_succ, List.zip_cons_cons, lay, hv]
      rw [if_neg (by simp; omega), Nat.mul_one, spl_one _ _ _ (by simp; omega)]
      have e : (pre ++ z :: zs).set k v = (pre ++ [v]) ++ zs := by rw [List.set_append_right _ _ (by omega)]; simp [hk]
      rw [e, lay_one vs (k + 1) (pre ++ [v]) (by simp [hk]) h1.2 zs (by simpa using hz)]
      simp
theorem evps_evs {ss : List (Nat × Value)} : ∀ {ks : List Nat} {xs : List Operand} {vs : List Value}, ks.length = xs.length → evs ss xs = some vs → evps ss (ks.zip xs) = some (ks.zip vs)
  | [], [], vs, _, h => by simp [evs] at h; subst h; simp [evps]
  | k :: ks, x :: xs, vs, hl, h => by
    simp only [evs] at h
    split at h
    · rename_i v us h1 h2
      have e : v :: us = vs := by simpa using h
      subst e
      simp only [List.zip_cons_cons, evps, h1, evps_evs (by simpa using hl) h2]
    · simp at h
  | [], _ :: _, _, hl, _ => by simp at hl
  | _ :: _, [], _, hl, _ => by simp at hl
/-- A list of values of one cell each. -/
theorem st_buildSlice1 {t e : TypeId} {len d : Nat} {parts : List (Nat × Operand)} {xs : List Operand} {vs : List Value} {z0 : Value} (ho : o.op = .buildSlice t len parts.toArray) (ht : P.underlying t = some (.slice e)) (hz : sizeB P e = some 1) (hzs : zeroL P e = some [z0]) (hsm : Nat.ble (len * 1) 16777216 = true)
    (hp : parts = (List.range' 0 len).zip xs) (ha : evs ss xs = some vs) (hl : vs.length = len) (hlx : xs.length = len) (h1 : vs.all (·.oneCell') = true) (hw : wantB ops ss o = some true) (hd : o.dst = some d) (hn : Nat.ble (d + 1) n = true) (H : St n S w0 ss l a w)
    (K : ∀ b a' w', St n S w0 ((d, .slice (some ⟨b, 0, none⟩) len len) :: ss) (It.blk b e vs :: l) a' w' → wpList P ops Q rest a' w') : wpList P ops Q (o :: rest) a w := by
  have ha' : evps ss parts = some ((List.range' 0 len).zip vs) := by rw [hp]; exact evps_evs (by simp [hlx]) ha
  refine st_buildSlice ho ht hz hzs rfl hsm ha' ?_ hw hd hn H K
  have h := lay_one vs 0 [] rfl h1 ((List.range (len * 1)).map (fun i => [z0].getD (i % 1) undef)) (by simp [hl])
  simp only [List.nil_append, hl] at h
  exact h

/-- make([]T, n): a row of its own. -/
theorem st_make {t e : TypeId} {x y : Operand} {k k' : IntKind} {z bytes m d : Nat} {v : Value} (ho : o.op = .makeSlice t x y) (ht : sliceB P t = some (e, z, bytes)) (hx : evO ss x = some (.int k (m : Int))) (hy : evO ss y = some (.int k' (m : Int))) (hm : m ≤ maxLen) (hb : bytes * m ≤ 281474976710656)
    (hzs : (P.info? e).bind (·.zero) = some v) (hw : wantB ops ss o = some true) (hd : o.dst = some d) (hn : Nat.ble (d + 1) n = true) (H : St n S w0 ss l a w)
    (K : ∀ b a' w', St n S w0 ((d, .slice (some ⟨b, 0, none⟩) m m) :: ss) (It.blk b e (madeCells v.cells (m * z)).toList :: l) a' w' → wpList P ops Q rest a' w') : wpList P ops Q (o :: rest) a w := by
  unfold sliceB at ht
  split at ht
  · rename_i e1 ht1
    split at ht
    · rename_i i hi
      split at ht
      · rename_i zv hz
        split at ht
        · rename_i hzz
          simp only [Option.some.injEq, Prod.mk.injEq] at ht
          obtain ⟨rfl, hs, hbb⟩ := ht
          subst hs hbb
          have hv : zv = v := by simpa [hi, hz] using hzs
          subst hv
          have e2 : ((i.bytes * m : Nat) : Int) = (i.bytes : Int) * (m : Int) := Int.natCast_mul _ _
          have hbI : (i.bytes : Int) * (m : Int) ≤ 281474976710656 := by rw [← e2]; omega
          have hr := run_make (P := P) w t e1 i zv ht1 hi hz k k' (m : Int) (m : Int) (by omega) (Int.le_refl _) hbI (by unfold maxLen at hm; omega)
          simp only [Int.toNat_natCast] at hr
          refine does (v := .slice (some ⟨w.heap.size, 0, none⟩) m m) (w' := w.alloc (.cells (madeCells zv.cells (m * i.size)) e1)) hw hd hn H ?_ (H.sep.alloc _) (fun a' H' => K w.heap.size a' _ ?_)
          · simp [execOp, ho, H.fr.ev hx, H.fr.ev hy, hr]
          · have e : It.blk w.heap.size e1 (madeCells zv.cells (m * i.size)).toList = It.obj w.heap.size (.cells (madeCells zv.cells (m * i.size)) e1) := by unfold It.blk; rw [Array.toArray_toList]
            rw [e]
            exact H'
        · simp at ht
      · simp at ht
    · simp at ht
  · simp at ht
end
end Go.Sx

/- Own words for walks: small helps. -/
set_option linter.unusedVariables false
set_option linter.unusedSimpArgs false
namespace Go.Sx
open Go.RowKit

theorem fi {ss : List (Nat × Value)} {t : Nat} {k : IntKind} {x y : Int} (h : find ss t = some (.int k x)) (e : x = y) : find ss t = some (.int k y) := by rw [h, e]
theorem fs {ss : List (Nat × Value)} {t : Nat} {x y : List UInt8} (h : find ss t = some (str x)) (e : x = y) : find ss t = some (str y) := by rw [h, e]
theorem fv {ss : List (Nat × Value)} {t : Nat} {x y : Value} (h : find ss t = some x) (e : x = y) : find ss t = some y := by rw [h, e]
theorem ib {b : Nat} {E : TypeId} {cs ds : List Value} {l : List It} (e : cs = ds) : It.blk b E cs :: l = It.blk b E ds :: l := by rw [e]
theorem ib2 {b : Nat} {E : TypeId} {cs ds : List Value} {l l' : List It} (e : cs = ds) (h : l = l') : It.blk b E cs :: l = It.blk b E ds :: l' := by rw [e, h]
theorem ir {e size : Nat} {v : Value} {n n' : Nat} {xs ys : List Value} {l : List It} (h1 : n = n') (h2 : xs = ys) : It.row e size v n xs :: l = It.row e size v n' ys :: l := by rw [h1, h2]
theorem ir2 {e size : Nat} {v : Value} {n n' : Nat} {xs ys : List Value} {l l' : List It} (h1 : n = n') (h2 : xs = ys) (h : l = l') : It.row e size v n xs :: l = It.row e size v n' ys :: l' := by rw [h1, h2, h]
theorem wu8_nat (x : Nat) : IntKind.u8.wrap (x : Int) = ((UInt8.ofNat x).toNat : Int) := by
  rw [wu8_mod, UInt8.toNat_ofNat']
  omega
theorem wu8_eq {y : Int} {x : Nat} (h : y = (x : Int)) : IntKind.u8.wrap y = ((UInt8.ofNat x).toNat : Int) := by rw [h, wu8_nat]
theorem map_get {α : Type} (f : α → Value) (L : List α) (i : Nat) (d : α) (h : i < L.length) : (L.map f)[i]? = some (f (L.getD i d)) := by
  simp [List.getElem?_eq_getElem h, List.getD_eq_getElem?_getD]

section
variable {S : List Nat} {w0 : World} {l : List It}
/-- The tail of an array in a block. -/
theorem rd_slA {b : Nat} {E : TypeId} {cs ds : List Value} {len q k : Nat} (hm : It.blk b E cs ∈ l) (hlen : cs.length = len) (hk : k = q) (hd : cs.drop q = ds) : ∀ w, Sep S w0 w l → Rd w (if len = k then some ⟨b, 0, none⟩ else (some (⟨b, 0, none⟩ : Addr)).map (·.add (k * 1))) ds := fun w hs => by
  subst hk
  rw [Nat.mul_one]
  have h := Rd.blk (hs.all _ hm) 0 cs.length
  simp only [List.drop_zero, List.take_length] at h
  have h2 := h.drop k (len = k) (fun e => by omega)
  rw [← hd]
  exact h2
end
end Go.Sx
namespace Go.Sx
theorem Sep.addNil {S : List Nat} {w0 w : World} {l : List It} (h : Sep S w0 w l) (e size : Nat) : Sep S w0 w (It.row e size (.slice none 0 0) 0 [] :: l) :=
  h.add (Frm.refl _ _) (Row.nil _ _ _) (by simp [It.row, Value.ownBlock])
/-- An item said anew. -/
theorem Sep.conv {S : List Nat} {w0 w : World} {l l' : List It} {i i' : It} (h : Sep S w0 w l) (u : Upd l i i' l') (hP : i.P w → i'.P w) (hfp : ∀ b ∈ i'.fp, b ∈ i.fp) : Sep S w0 w l' := by
  have hm : i ∈ l := by
    obtain ⟨r, h1, _⟩ := u.perm
    exact h1.symm.subset (by simp)
  exact h.upd u (Frm.refl _ _) (hP (h.all _ hm)) (fun b hb => .inl (hfp b hb))
theorem St.conv {n : Nat} {S : List Nat} {w0 : World} {ss : List (Nat × Value)} {l l' : List It} {a : Act} {w : World} {i i' : It} (h : St n S w0 ss l a w) (u : Upd l i i' l') (hP : i.P w → i'.P w) (hfp : ∀ b ∈ i'.fp, b ∈ i.fp) : St n S w0 ss l' a w := ⟨h.fr, h.sep.conv u hP hfp⟩
/-- A literal slice may grow. -/
theorem St.asRow {n : Nat} {S : List Nat} {w0 : World} {ss : List (Nat × Value)} {l l' : List It} {a : Act} {w : World} {b E size m : Nat} {cs : List Value} (h : St n S w0 ss l a w) (u : Upd l (It.blk b E cs) (It.row E size (.slice (some ⟨b, 0, none⟩) m m) m cs) l') (hl : cs.length = m * size) (hm : m ≤ maxLen) : St n S w0 ss l' a w :=
  h.conv u (fun hp => row_of_blk hp hl hm) (by intro b' hb'; simpa [It.row, It.blk, It.obj, Value.ownBlock] using hb')
theorem St.nilRow {n : Nat} {S : List Nat} {w0 : World} {ss : List (Nat × Value)} {l : List It} {a : Act} {w : World} (h : St n S w0 ss l a w) (e size : Nat) : St n S w0 ss (It.row e size (.slice none 0 0) 0 [] :: l) a w := ⟨h.fr, h.sep.addNil e size⟩
theorem Rd.ofSep {S : List Nat} {w0 w : World} {l : List It} {A : Option Addr} {cs : List Value} (h : ∀ w, Sep S w0 w l → Rd w A cs) (hs : Sep S w0 w l) : Rd w A cs := h w hs
theorem row_shape {S : List Nat} {w0 w : World} {l : List It} {e size n : Nat} {v : Value} {xs : List Value} (hs : Sep S w0 w l) (hm : It.row e size v n xs ∈ l) : ∃ A c, v = .slice A n c ∧ Rd w A xs ∧ n ≤ maxLen := Row.rd (hs.all _ hm)
end Go.Sx

/- Own words: how arguments read. -/
set_option linter.unusedVariables false
set_option linter.unusedSimpArgs false
namespace Go.Sx
open Go.RowKit Go.WideShapes Go.ChangeAt Go.ChangeShapes

section
variable {H : Type} {enc : TypeId × Value → H} {P : Program} {W : World} {base : Nat} {sp : Nat → Bool} {held : Bool}
end
theorem wf_i64 {n : Int} (h : (Lit.int .i64 n).wf = true) : -9223372036854775808 ≤ n ∧ n ≤ 9223372036854775807 := by
  simp [Lit.wf, IntKind.min, IntKind.max, IntKind.bits, IntKind.signed] at h
  omega
/-- What a law's walk comes to. -/
theorem law_below {P : Program} {f : FuncId} {args : Array Value} {W : World} (h : Calls P f args W (Gives (.bool true) [] W)) : Calls P f args W fun e w' => e = .returned (.bool true) ∧ Below W.heap.size W w' :=
  h.mono fun e w' ⟨v, l, he, ⟨hv, _⟩, hs⟩ => ⟨by rw [he, hv], hs.frm.below⟩
end Go.Sx

/- Own words: regions that draw and end in a chain, nil pointers, calls that write what they were given. -/
set_option linter.unusedVariables false
set_option linter.unusedSimpArgs false
namespace Go.Sx
open Go.RowKit

variable {P : Program} {n : Nat} {S : List Nat} {w0 : World} {ss : List (Nat × Value)} {l : List It}
variable {ops : Array Oper} {Q : Exit → Act → World → Prop} {rest : List Oper} {o : Oper} {a : Act} {w : World}

theorem treg {id : Nat} {rl : List Oper} (k : Nat) (hm : P.follows .mixedOrders = true) (hB : Region.lexTailB .any rl.toArray k = true) (H : St n S w0 ss l a w)
    (h : ∀ w', St n S w0 ss l a w' → wpStill P rl.toArray w' (fun a' => wpList P rl.toArray Q (rl.drop k) a' w') (rl.take k) a) : (Code.region id rl.toArray true).wp P Q a w :=
  wp_region_still_tail k hm hB (h _ ⟨H.fr, H.sep.drewN 1⟩)
variable {Qa : Act → Prop}
theorem tplain {d : Nat} {v : Value} (hy : Yld P n S w0 ss l o v) (hw : wantB ops ss o = some true) (hd : o.dst = some d) (hn : Nat.ble (d + 1) n = true) (H : St n S w0 ss l a w)
    (K : ∀ a', St n S w0 ((d, v) :: ss) l a' w → wpStill P ops w Qa rest a') : wpStill P ops w Qa (o :: rest) a := by
  unfold wpStill
  rw [if_pos (wanted_of H.fr hw)]
  unfold Oper.still
  rw [hy a w H.fr H.sep, Oper.stillUpon_value, hd]
  exact K _ ⟨H.fr.put (Nat.lt_of_succ_le (Nat.le_of_ble_eq_true hn)) v, H.sep⟩
theorem tfin {a : Act} (h : Qa a) : wpStill P ops w Qa [] a := h

/-! ### Pointers beside nil -/
theorem run_ptr_nil {t e : TypeId} (p : Option Addr) (m : Nat) (h : P.underlying t = some (.pointer e)) : (Op.equalIn (m + 1) t (.pointer p) (.pointer none)).run P w = .ok p.isNone w := by
  unfold Op.equalIn
  simp only [Sem.run_bind, run_underlying h, Result.andThen_ok]
  cases p <;> simp
theorem y_peql {t t' e : TypeId} {x : Operand} {y : Operand} {p : Option Addr} (ho : o.op = .binOp .eql t x y t') (ht : P.underlying t = some (.pointer e)) (hx : evO ss x = some (.pointer p)) (hy : evO ss y = some (.pointer none)) : Yld P n S w0 ss l o (.bool p.isNone) := by
  intro a w F _
  have h1 := run_ptr_nil (w := w) p 9999 ht
  simp [execOp, ho, F.ev hx, F.ev hy, eqGuard, binOp, Op.equal, Op.maxDepth, h1]
/-! ### Calls that write what they were given -/
theorem Sep.only {S : List Nat} {w0 w : World} {l : List It} {i : It} (h : Sep S w0 w l) (hi : i ∈ l) : Sep i.fp w w [i] :=
  ⟨Frm.refl _ _, fun j hj => by rw [List.mem_singleton.1 hj]; exact h.all i hi, fun j hj b hb => by rw [List.mem_singleton.1 hj] at hb; exact .inl hb, by simp⟩
/-- A call that hands back v and turns the item i into i'. -/
def Turns (v : Value) (i i' : It) (w : World) : Ending → World → Prop := Post i.fp w (fun u l => u = v ∧ l = [i'])
/-- .. and at the end of such a callee. -/
theorem Turns.ret {v : Value} {i i' : It} {w w' : World} (h : Sep i.fp w w' [i']) : Turns v i i' w (.returned v) w' := ⟨v, [i'], rfl, ⟨rfl, rfl⟩, h⟩

/-! ### Lists of numbers -/
def i64 (n : Int) : Value := .int .i64 n
theorem i64_get (L : List Int) (k : Nat) (h : k < L.length) : (L.map i64)[k]? = some (.int .i64 (L.getD k 0)) := map_get i64 L k 0 h
/-! ### What is only read -/
theorem Sep.one {i : It} {w : World} (h : i.P w) : Sep i.fp w w [i] :=
  ⟨Frm.refl _ _, fun j hj => by rw [List.mem_singleton.1 hj]; exact h, fun j hj b hb => by rw [List.mem_singleton.1 hj] at hb; exact .inl hb, by simp⟩
theorem Sep.keep {w0 w : World} {l : List It} {i : It} (hs : Sep [] w0 w l) (hp : i.P w0) : i.P w := i.st w0 w (fun b hb => hs.frm.block b (i.lt w0 hp b hb) (by simp)) hp
theorem Sep.still {w w' : World} {b : Nat} {E : TypeId} {cs : List Value} {l : List It} (hp : (It.blk b E cs).P w) (hs : Sep [b] w w' (l ++ [It.blk b E cs])) : Sep [] w w' l := by
  have hd := List.pairwise_append.1 hs.dis
  refine ⟨⟨hs.frm.os, hs.frm.tape, hs.frm.output, hs.frm.size, fun k hk _ => ?_⟩, fun i hi => hs.all i (List.mem_append_left _ hi), fun i hi c hc => ?_, hd.1⟩
  · by_cases e : k = b
    · subst e
      exact (hs.all _ (List.mem_append_right _ (List.mem_singleton.2 rfl))).trans hp.symm
    · exact hs.frm.block k hk (by simpa using e)
  · rcases hs.own i (List.mem_append_left _ hi) c hc with h | h
    · exact absurd h (hd.2.2 i hi _ (List.mem_singleton.2 rfl) c hc)
    · exact .inr h
theorem Post.still {f : FuncId} {args : Array Value} {w : World} {b : Nat} {E : TypeId} {cs : List Value} {Φ : Value → List It → Prop} (hp : (It.blk b E cs).P w)
    (h : Calls P f args w (Post [b] w fun u l => ∃ l', l = l' ++ [It.blk b E cs] ∧ Φ u l')) : Calls P f args w (Post [] w Φ) :=
  h.mono fun e w' ⟨v, l, he, ⟨l', hl, hΦ⟩, hs⟩ => ⟨v, l', he, hΦ, Sep.still hp (hl ▸ hs)⟩
theorem y_ixL {x i : Operand} {t e : TypeId} {z m c b off r : Nat} {k : IntKind} {q : Int} (ho : o.op = .indexAddr t x i) (ht : P.underlying t = some (.slice e)) (hz : sizeB P e = some z) (hx : evO ss x = some (.slice (some ⟨b, off, none⟩) m c)) (hi : evO ss i = some (.int k q)) (h0 : 0 ≤ q) (h1 : q < (m : Int)) (hr : off + q.toNat * z = r) : Yld P n S w0 ss l o (.pointer (some ⟨b, r, none⟩)) := by
  subst hr
  rw [← add_mk]
  exact y_ixS ho ht hz hx hi h0 h1
theorem blk_cell {w : World} {b o : Nat} {E : TypeId} {cs : List Value} {v : Value} (h : (It.blk b E cs).P w) (hv : cs[o]? = some v) : w.cell? ⟨b, o, none⟩ = some v := by rw [cell_blk h]; simpa using hv
end Go.Sx
